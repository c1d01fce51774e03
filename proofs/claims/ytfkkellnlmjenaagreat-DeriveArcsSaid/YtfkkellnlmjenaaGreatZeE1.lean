/-
  derive: nullable, plain.
-/
import Derived.Test.YtfkkellnlmjenaaGreatZeBx
set_option linter.unusedSimpArgs false
set_option linter.unusedVariables false
namespace Go.Ab
open Go Go.RowKit Go.Fwd
def hdT (l : List Tr) : Tr := l.getD 0 noneT
mutual
def plT : Tr → Tr
 | .mk k s mn mx l => bif (k : Int) == 3 then zkx (plL l) else bif (k : Int) == 4 then orT (plL l) else bif (k : Int) == 5 then zik (hdT (plL l)) mn mx else bif (k : Int) == 6 then hdT (plL l) else zvb (.mk k s mn mx l)
def plL : List Tr → List Tr
 | [] => []
 | x :: l => plT x :: plL l
end
theorem qnn : ∀ l : List Tr, plL l = l.map plT
 | [] => rfl
 | x :: l => by rw [plL, qnn l, List.map_cons]
def zmd (x : Tr) (mn mx : Int) : Tr := zik x (max (mn - 1) 0) (bif mx != -1 then mx - 1 else mx)
mutual
def byT (c : Nat) : Tr → List Tr
 | .mk k s mn mx l => bif (k : Int) == 2 then (bif s.getLsbD c then [emptyT] else []) else bif (k : Int) == 3 then zhx c l else bif (k : Int) == 4 then znt c l else bif (k : Int) == 5 then (z4h c l).map (fun t => zkx [t, zmd (hdT l) mn mx]) else []
def znt (c : Nat) : List Tr → List Tr
 | [] => []
 | x :: l => byT c x ++ znt c l
def z4h (c : Nat) : List Tr → List Tr
 | [] => []
 | x :: _ => byT c x
def zhx (c : Nat) : List Tr → List Tr
 | [] => []
 | x :: l => (byT c x).map (fun t => zkx [t, zkx l]) ++ (bif zes x then zhx c l else [])
end
theorem z8q (c : Nat) : ∀ l : List Tr, znt c l = l.flatMap (byT c)
 | [] => rfl
 | x :: l => by rw [znt, z8q c l, List.flatMap_cons]
theorem qcu (c : Nat) (t : Tr) : byT c t = (bif (t.k : Int) == 2 then (bif t.s.getLsbD c then [emptyT] else []) else bif (t.k : Int) == 3 then zhx c t.l else bif (t.k : Int) == 4 then t.l.flatMap (byT c) else bif (t.k : Int) == 5 then (z4h c t.l).map (fun x => zkx [x, zmd (hdT t.l) t.mn t.mx]) else []) := by
 obtain ⟨k, s, mn, mx, l⟩ := t
 rw [byT, z8q]; rfl
theorem qog (t : Tr) : plT t = (bif (t.k : Int) == 3 then zkx (t.l.map plT) else bif (t.k : Int) == 4 then orT (t.l.map plT) else bif (t.k : Int) == 5 then zik (hdT (t.l.map plT)) t.mn t.mx else bif (t.k : Int) == 6 then hdT (t.l.map plT) else zvb t) := by
 obtain ⟨k, s, mn, mx, l⟩ := t
 rw [plT, qnn]; rfl
instance (l : List Tr) : Decidable (CRL l) := inferInstanceAs (Decidable (_ = true))
instance (t : Tr) : Decidable (CR t) := inferInstanceAs (Decidable (_ = true))
instance (n : Nat) (t : Tr) : Decidable (CS n t) := inferInstanceAs (Decidable (_ ∧ _))
mutual
def tbT : Tr → Nat
 | .mk k s mn mx l => bif (k : Int) == 3 then tbL l else bif (k : Int) == 5 then zkh l + (zan l).length + 2 else max (1 + (zan l).length) (zkh l)
def tbL : List Tr → Nat
 | [] => 1
 | x :: l => max (tbT x + (zan l).length + (if l.isEmpty = true then 0 else 1)) (tbL l)
def zkh : List Tr → Nat
 | [] => 0
 | x :: l => max (tbT x) (zkh l)
end
def BO (t : Tr) : Prop := CR t ∧ tbT t ≤ 4000
instance (t : Tr) : Decidable (BO t) := inferInstanceAs (Decidable (_ ∧ _))
theorem qbc {t : Tr} (h : t.k = 3) : tbT t = tbL t.l := by obtain ⟨k, s, mn, mx, l⟩ := t; simp only [Tr.k] at h; subst h; rw [tbT]; rfl
theorem qgp {t : Tr} (h : t.k = 5) : tbT t = zkh t.l + (zan t.l).length + 2 := by obtain ⟨k, s, mn, mx, l⟩ := t; simp only [Tr.k] at h; subst h; rw [tbT]; rfl
theorem zxp {t : Tr} (h3 : t.k ≠ 3) (h5 : t.k ≠ 5) : tbT t = max (1 + (zan t.l).length) (zkh t.l) := by
 obtain ⟨k, s, mn, mx, l⟩ := t
 simp only [Tr.k] at h3 h5
 rw [tbT, show ((k : Int) == 3) = false by simp; omega, show ((k : Int) == 5) = false by simp; omega]; rfl
theorem ztb : ∀ {l : List Tr} {x : Tr}, x ∈ l → tbT x ≤ zkh l
 | y :: l, x, h => by
  rw [zkh]
  rcases List.mem_cons.1 h with rfl | h
  ·omega
  ·have := ztb h; omega
theorem qda : ∀ l : List Tr, 1 ≤ tbL l
 | [] => by rw [tbL]; omega
 | x :: l => by rw [tbL]; have := qda l; omega
theorem z5f (t : Tr) : 1 ≤ tbT t := by
 by_cases h3 : t.k = 3
 ·rw [qbc h3]; exact qda _
 ·by_cases h5 : t.k = 5
  ·rw [qgp h5]; omega
  ·rw [zxp h3 h5]; omega
theorem qmt : ∀ a b : List Tr, tbL (a ++ b) ≤ max (tbL a + (zan b).length + (if b.isEmpty = true then 0 else 1)) (tbL b)
 | [], b => by rw [List.nil_append]; omega
 | x :: a, b => by
  have ih := qmt a b
  rw [List.cons_append, tbL, tbL, zbw, List.length_append]
  cases b with
  | nil => simp only [List.append_nil, List.isEmpty_nil, if_true] at ih ⊢; omega
  | cons y b =>
   have e : (a ++ y :: b).isEmpty = false := by simp
   rw [e]
   simp only [List.isEmpty_cons, Bool.false_eq_true, if_false] at ih ⊢
   split <;> omega
theorem qgw : ∀ (n : Nat) (t : Tr), (pre t).length ≤ n → CR t → (pre t).length ≤ tbT t
  | 0, t, hn, _ => by have : 0 < (pre t).length := by rw [zdi]; simp
                      omega
  | n + 1, t, hn, h => by
    have hp : (pre t).length = 1 + (zan t.l).length := by rw [zdi, List.length_cons]; omega
    by_cases h3 : t.k = 3
    · have hc := zge ((zcd t).1 h).1 h3
      have hs := ((zcd t).1 h).2
      rw [qbc h3]
      cases hl : t.l with
      | nil => rw [hl] at hc; simp at hc
      | cons x l =>
        rw [hl] at hc hp hs
        have := qgw n x (by rw [zan, List.length_append] at hp; omega) ((zau _ _).1 hs).1
        have he : l.isEmpty = false := by cases l with | nil => simp at hc | cons y l => rfl
        rw [tbL, he]
        rw [zan, List.length_append] at hp
        simp only [Bool.false_eq_true, if_false]; omega
    · by_cases h5 : t.k = 5
      · rw [qgp h5]; omega
      · rw [zxp h3 h5]; omega
theorem CR.tb {t : Tr} (h : CR t) : (pre t).length ≤ tbT t := qgw _ t (Nat.le_refl _) h
theorem z1n {l : List Tr} (h : CRL l) (hl : (zan l).length ≤ 9998) : zkx l = zrf 3 (zbs 3 l) := by
 have hcl : ∀ x ∈ l, zcj x = true := fun x hx => zht ((zeg l).1 h x hx) (by have := zcc hx; omega)
 have hno : (l.any fun x => (x.k : Int) == 0 || !zcj x) = false := by
  rw [List.any_eq_false]
  intro x hx
  have h1 := ((zeg l).1 h x hx).k0
  have h2 := hcl x hx
  simp [h2]; omega
 have hG := zju h
 have hs := zfu 3 l
 have hE := zno hG
 have hL := zlx 3 (zbs 3 l)
 have hce : zcj (zrf 3 (zbs 3 l)) = true := zht hE (by omega)
 unfold zkx
 rw [if_neg (by rw [hno]; simp), flatT3]
 unfold zpk
 unfold zrf at hce ⊢
 cases c1 : ((zbs 3 l).length : Int) == 0 with
 | true => rfl
 | false =>
  rw [c1] at hce
  simp only [cond_false] at hce ⊢
  cases c2 : ((zbs 3 l).length : Int) == 1 with
  | true => rw [c2] at hce; simp only [cond_true] at hce ⊢; exact zjh hce
  | false => rw [c2] at hce; simp only [cond_false] at hce ⊢; exact zjh hce
theorem flat1 {t : Tr} (h : CR t) : tbL (zbs 3 [t]) = tbT t := by
 by_cases h3 : t.k = 3
 ·rw [qbc h3]; simp [zcu, zih, h3]
 ·by_cases h1 : t.k = 1
  ·have := qnh h h1; subst this; simp [zcu, zih, emptyT, Tr.k, tbL, tbT, zan, zkh]
  ·have e : zbs 3 [t] = [t] := by rw [zcu, zih, show ((t.k : Int) == ((3 : Nat) : Int)) = false by simp; omega, show ((t.k : Int) == 1) = false by simp; omega]; rfl
   rw [e, tbL, tbL, zan]; have := z5f t; simp; omega
theorem qnl : ∀ m : List Tr, tbT (zrf 3 m) = tbL m
 | [] => by rw [show zrf 3 [] = emptyT from rfl]; simp [emptyT, tbT, tbL, zan, zkh]
 | [x] => by rw [ziq, tbL, tbL, zan]; have := z5f x; simp; omega
 | x :: y :: l => by rw [zha, qbc rfl]; rfl
theorem qdi {a z : Tr} (ha : CR a) (hz : CR z) (hl : (pre a).length + (pre z).length ≤ 9998) :
 CR (zkx [a, z]) ∧ tbT (zkx [a, z]) ≤ max (tbT a + (zan (zbs 3 [z])).length + (if (zbs 3 [z]).isEmpty = true then 0 else 1)) (tbT z) := by
 have hc : CRL [a, z] := (zeg _).2 (by simp [ha, hz])
 have hL : (zan [a, z]).length ≤ 9998 := by simp [zan]; omega
 rw [z1n hc hL]
 refine ⟨zno (zju hc), ?_⟩
 rw [qnl, show zbs 3 [a, z] = zbs 3 [a] ++ zbs 3 [z] by rw [← zqk]; rfl]
 have := qmt (zbs 3 [a]) (zbs 3 [z])
 rw [flat1 ha, flat1 hz] at this
 exact this
end Go.Ab
namespace Go.Ab
open Go Go.RowKit Go.Fwd Go.Proofs
theorem qno {α : Type} [Enc α] {P : Program} {ρ : Operand → AV} {σ : St} {o : Oper} {c : Call} {x : Operand} {t e : TypeId} {l : List α} {b sz : Nat} (ho : o.op = .call c) (hc : c.callee = .builtin .len) (ha : c.args.toList = [x]) (ht : c.argTypes.toList = [t]) (hx : ρ x = zug b l.length sz) (hu : P.underlying t = some (.slice e)) :
 qop P ρ σ o = some (.raw (.int .i64 (l.length : Int))) := by
 cases l with
 | nil =>
  have hx : ρ x = .list 0 [] .full := hx
  simp [qop, ho, hc, ha, ht, hx, qir, hu]
 | cons y l =>
  have hx : ρ x = .bsl b 0 (l.length + 1) sz false := hx
  simp [qop, ho, hc, ha, ht, hx, qir, hu]
theorem qfn {α : Type} [Enc α] {l : List α} (h : 0 < l.length) : zfj l.length (Enc.cellsL l) = .list l.length (Enc.cellsL l) (.own 0) := by
 unfold zfj; rw [if_neg (by omega)]
theorem qfq {α : Type} [Enc α] {P : Program} {ρ : Operand → AV} {σ : St} {o : Oper} {t e : TypeId} {x i : Operand} {l : List α} {k : IntKind} {n : Int} (hb : 0 ≤ n ∧ n < l.length) (ho : o.op = .indexAddr t x i) (hx : ρ x = zfj l.length (Enc.cellsL l)) (hi : ρ i = .raw (.int k n)) (hu : P.underlying t = some (.slice e)) (hs : zdj P e = some (Enc.sz α)) :
 qop P ρ σ o = some (.iptr (Enc.cells (ix l n) ++ Enc.cellsL (l.drop (n.toNat + 1)))) := z3i hb ho (hx.trans (qfn (by omega))) hi hu hs
theorem pos_of0 {α : Type} {l : List α} (h : ((l.length : Int) == 0) = false) : 0 < l.length := by
 have : ¬ ((l.length : Int) = 0) := by simpa using h
 omega
def lbU (n : Nat) : List UInt8 := (zwn (n % 12)).map UInt8.ofNat
def clsU (l : List UInt8) : Tr := z8e (l.map UInt8.toNat)
def clsA : List (List UInt8) := [[97], [98], [97, 98], [99], [97, 98, 99], [98, 99], [10], [0, 255], []]
theorem qcd : ∀ n : Nat, n < 256 → lbU n ∈ clsA ∧ bsOf ((lbU n).map UInt8.toNat) = bsOf (zwn (n % 12)) := by decide +kernel
theorem clsU_lb (n : Nat) (h : n < 256) : clsU (lbU n) = z8e (zwn (n % 12)) := by rw [clsU, z8e, (qcd n h).2]; rfl
noncomputable def run1 (f : Nat) (args : List AV) (r : AV) : Bool := match zme Tryz.prog noP (evQ true Tryz.prog noP noS 300) f args with
 | some x => z5z x r
 | none => false
theorem qdw {f : Nat} {args : List AV} {r : AV} (h : run1 f args r = true) : Pure (ITP Tryz.prog) Tryz.prog f args r := by
 unfold run1 at h
 split at h
 ·rename_i x hx
  rw [qeo _ _ h] at hx
  exact zal true z3w 300 hx
 ·cases h
theorem let_tab : ((List.range 256).all fun n => run1 48 [.raw (.int .u8 (n : Int))] (.raw (.string (bs (lbU n))))) = true := by kernel_rfl
theorem qdu (n : Int) (h : 0 ≤ n ∧ n < 256) : Pure (ITP Tryz.prog) Tryz.prog 48 [.raw (.int .u8 n)] (.raw (.string (bs (lbU n.toNat)))) := by
 obtain ⟨m, rfl⟩ : ∃ m : Nat, n = m := ⟨n.toNat, by omega⟩
 rw [Int.toNat_natCast]
 exact qdw (List.all_eq_true.1 let_tab m (List.mem_range.2 (by omega)))
theorem cls_tab : (clsA.all fun l => run1 47 [.raw (.string (bs l))] (.agg (Enc.cells (clsU l)))) = true := by kernel_rfl
theorem zur (l : List UInt8) (h : l ∈ clsA) : Pure (ITP Tryz.prog) Tryz.prog 47 [.raw (.string (bs l))] (.agg (Enc.cells (clsU l))) := qdw (List.all_eq_true.1 cls_tab l h)
end Go.Ab
set_option maxRecDepth 100000
set_option maxHeartbeats 4000000
namespace Go.Ab
open Go Go.RowKit Go.Fwd Go.Proofs
def z5v (n : Nat) (x : Tr) : Option Bool :=
 (chk (((pre x).length < n ∧ crT x = true)) (zbb (zes x) (fun x1 => (some (!x1)))))
theorem ent101 : Ent Tryz.prog 101 := enters_of Tryz.func101 (by kernel_rfl) rfl
theorem nu1_sh (n : Nat) (x : Tr) (r : Bool) (ih : ∀ x : Tr, ((pre x).length < n ∧ crT x = true) → Pure (ITP Tryz.prog) Tryz.prog 60 [.A x] (.raw (.bool (zes x)))) (h : z5v n x = some r) : Pure (ITP Tryz.prog) Tryz.prog 101 [.A (x : Tr)] (.raw (.bool r)) := by
 unfold z5v at h
 refine zaw 5 mix Tryz.func101 ent101 ?_
 refine zf (zb ?_)
 refine zbp (a := .ptr 0 0) (σ'' := (.B [(29, (Enc.cells (x : Tr)))])) ?_
 refine w_o (a := .b false) ?_
 refine zo [.v (.A (x : Tr))] ?_
 obtain ⟨g1, h⟩ := zh h
 obtain ⟨x1, hx1, h⟩ := zl h
 refine zcf (args' := [.A (x : Tr)]) (r := .b x1) (by rw [← hx1]; exact (ih x g1)) ?_
 refine w_r [.v (.b (!x1)), .m _] ?_
 exact zba h
def zyb (fuel : Nat) (n : Nat) (t : Tr) : Option Bool :=
 (bif (((t.k : Nat) : Int) == 1) then (some true) else (bif (((t.k : Nat) : Int) == 3) then (zay (z6g fuel (fun x => z5v n x) t.l) (fun x1 => (some (!x1)))) else (bif (((t.k : Nat) : Int) == 4) then (zay (z6g fuel (q1 zes n) t.l) (fun x2 => (some x2))) else (bif (((t.k : Nat) : Int) == 5) then (bif (t.mn == 0) then (some true) else (chk (0 ≤ (0 : Int) ∧ (0 : Int) < (List.length t.l : Int)) (zbb (ix t.l (0 : Int)) (fun x3 => (chk (((pre x3).length < n ∧ crT x3 = true)) (zbb (zes x3) (fun x4 => (some x4)))))))) else (bif (((t.k : Nat) : Int) == 6) then (chk (0 ≤ (0 : Int) ∧ (0 : Int) < (List.length t.l : Int)) (zbb (ix t.l (0 : Int)) (fun x5 => (chk (((pre x5).length < n ∧ crT x5 = true)) (zbb (zes x5) (fun x6 => (some x6))))))) else (some false))))))
theorem ent60 : Ent Tryz.prog 60 := enters_of Tryz.func60 (by kernel_rfl) rfl
theorem qje (fuel : Nat) (n : Nat) (t : Tr) (r : Bool) (ih : ∀ x : Tr, ((pre x).length < n ∧ crT x = true) → Pure (ITP Tryz.prog) Tryz.prog 60 [.A x] (.raw (.bool (zes x)))) (h : zyb fuel n t = some r) : Pure (ITP Tryz.prog) Tryz.prog 60 [.A (t : Tr)] (.raw (.bool r)) := by
 unfold zyb at h
 refine zaw 36 mix Tryz.func60 ent60 ?_
 refine zf (zb ?_)
 refine zbp (a := .ptr 0 0) (σ'' := (.B [(29, (Enc.cells (t : Tr)))])) ?_
 refine w_o (a := .b false) ?_
 refine zf ?_
 refine zo [.v (.ptr 0 0), .v (.u ((t.k : Nat) : Int))] ?_
 refine zn ?_
 refine zo [.v (.b (((t.k : Nat) : Int) == 1)), .m _] ?_
 refine zbu h (fun hc1 h => ?_) (fun hc1 h => ?_)
 refine zo [.v (.b true)] ?_
 exact zba h
 refine zo [.v (.b (((t.k : Nat) : Int) == 3)), .m _] ?_
 refine zbu h (fun hc2 h => ?_) (fun hc2 h => ?_)
 refine zo [.v (.ptr 0 7), .v (.L (t.l : List Tr))] ?_
 obtain ⟨x1, hx1, h⟩ := zv h
 refine zdd (args' := [.L (t.l : List Tr), .clos 101 []]) (r := .b x1) (qgj fuel (fun x => z5v n x) t.l x1 101 (fun x y h => nu1_sh n x y ih h) hx1) rfl rfl (ze (zfq (Enc.cloL _)) (ze (show AV.clos _ (stripL _) = _ from congrArg (AV.clos _) rfl) rfl)) (za (zai (Enc.cloL _)) (za (show zw _ _ = true from rfl) rfl)) (by dsimp only [zab, List.set]) ?_
 refine w_r [.v (.b (!x1)), .m _] ?_
 exact zba h
 refine zo [.v (.b (((t.k : Nat) : Int) == 4)), .m _] ?_
 refine zbu h (fun hc3 h => ?_) (fun hc3 h => ?_)
 refine zo [.v (.ptr 0 7), .v (.L (t.l : List Tr))] ?_
 obtain ⟨x2, hx2, h⟩ := zv h
 refine zdd (args' := [.L (t.l : List Tr), .clos 60 []]) (r := .b x2) (qgj fuel (q1 zes n) t.l x2 60 (fun x y h => by obtain ⟨h1, rfl⟩ := q1_some h; exact ih x h1) hx2) rfl rfl (ze (zfq (Enc.cloL _)) (ze (show AV.clos _ (stripL _) = _ from congrArg (AV.clos _) rfl) rfl)) (za (zai (Enc.cloL _)) (za (show zw _ _ = true from rfl) rfl)) (by dsimp only [zab, List.set]) ?_
 refine zaj ?_
 exact zba h
 refine zo [.v (.b (((t.k : Nat) : Int) == 5)), .m _] ?_
 refine zbu h (fun hc4 h => ?_) (fun hc4 h => ?_)
 refine zo [.v (.ptr 0 5), .v (.i t.mn), .v (.b (t.mn == 0))] ?_
 refine zac h (fun hc5 h => ?_) (fun hc5 h => ?_)
 refine zaz hc5 ?_
 refine w_r [.p, .p, .p, .p, .p] ?_
 refine w_r [.v (.b true), .m _] ?_
 exact zba h
 refine zaz hc5 ?_
 refine w_r [.v (.ptr 0 7), .v (.L (t.l : List Tr))] ?_
 refine zak rfl rfl ?_
 obtain ⟨g1, h⟩ := zh h
 obtain ⟨x3, hx3, h⟩ := zl h
 refine zsm hx3 g1 ?_
 refine zak rfl rfl ?_
 refine w_o (a := .A (x3 : Tr)) ?_
 refine zak rfl rfl ?_
 obtain ⟨g2, h⟩ := zh h
 obtain ⟨x4, hx4, h⟩ := zl h
 refine zcf (args' := [.A (x3 : Tr)]) (r := .b x4) (by rw [← hx4]; exact (ih x3 g2)) ?_
 refine w_r [.v (.b x4), .m _] ?_
 exact zba h
 refine zo [.v (.b (((t.k : Nat) : Int) == 6)), .m _] ?_
 refine zbu h (fun hc6 h => ?_) (fun hc6 h => ?_)
 refine zo [.v (.ptr 0 7), .v (.L (t.l : List Tr))] ?_
 obtain ⟨g3, h⟩ := zh h
 obtain ⟨x5, hx5, h⟩ := zl h
 refine zsm hx5 g3 ?_
 refine w_o (a := .A (x5 : Tr)) ?_
 obtain ⟨g4, h⟩ := zh h
 obtain ⟨x6, hx6, h⟩ := zl h
 refine zcf (args' := [.A (x5 : Tr)]) (r := .b x6) (by rw [← hx6]; exact (ih x5 g4)) ?_
 refine zaj ?_
 exact zba h
 refine zo [.v (.b false)] ?_
 exact zba h
def zrp (fuel : Nat) (n : Nat) (t : Tr) : Option Tr :=
 (zdr (τ := (List Tr)) (zbx (β := (List Tr) × Int) (fun s1 => (bif (decide (s1.2 < (List.length t.l : Int))) then (chk (0 ≤ s1.2 ∧ s1.2 < (List.length t.l : Int)) (zbb (ix t.l s1.2) (fun x1 => (chk (((pre x1).length < n ∧ CS 998 x1)) (zbb (plT x1) (fun x2 => (chk ((List.length s1.1 + List.length [x2]) * 80 ≤ 140737488355328) (chk (-9223372036854775808 ≤ (s1.2 + 1) ∧ (s1.2 + 1) < 9223372036854775808) (some (Sum.inl ((s1.1 ++ [x2]), (s1.2 + 1)))))))))))) else (some (Sum.inr (Sum.inl (s1.1)))))) fuel (([] : (List Tr)), 0)) (fun j1 => (bif (((t.k : Nat) : Int) == 3) then (chk ((zan j1).length ≤ 2 ^ 40) (zbb (zkx j1) (fun x3 => (some x3)))) else (bif (((t.k : Nat) : Int) == 4) then (chk ((zan j1).length ≤ 2 ^ 40) (zbb (orT j1) (fun x4 => (some x4)))) else (bif (((t.k : Nat) : Int) == 5) then (chk (0 ≤ (0 : Int) ∧ (0 : Int) < (List.length j1 : Int)) (zbb (ix j1 (0 : Int)) (fun x5 => (chk ((pre x5).length < 2 ^ 40) (zbb (zik x5 t.mn t.mx) (fun x6 => (some x6))))))) else (bif (((t.k : Nat) : Int) == 6) then (chk (0 ≤ (0 : Int) ∧ (0 : Int) < (List.length j1 : Int)) (zbb (ix j1 (0 : Int)) (fun x7 => (some x7)))) else (chk ((pre t).length < 2 ^ 61) (zbb (zvb t) (fun x8 => (some x8))))))))))
theorem ent52 : Ent Tryz.prog 52 := enters_of Tryz.func52 (by kernel_rfl) rfl
theorem qee (fuel : Nat) (n : Nat) (t : Tr) (r : Tr) (ih : ∀ x : Tr, ((pre x).length < n ∧ CS 998 x) → Pure (ITP Tryz.prog) Tryz.prog 52 [.A x] (.A (plT x))) (h : zrp fuel n t = some r) : Pure (ITP Tryz.prog) Tryz.prog 52 [.A (t : Tr)] (.A (r : Tr)) := by
 unfold zrp at h
 refine zaw 45 mix Tryz.func52 ent52 ?_
 refine zf (zb ?_)
 refine zbp (a := .ptr 0 0) (σ'' := (.B [(29, (Enc.cells (t : Tr)))])) ?_
 refine zbp (a := .ptr 1 0) (σ'' := (.B [(29, (Enc.cells (t : Tr))), (29, [.u 0, .raw (.int .u64 0), .raw (.int .u64 0), .raw (.int .u64 0), .raw (.int .u64 0), .i 0, .i 0, .list 0 [] .full])])) ?_
 refine zo [.v (.list 0 [] .full)] ?_
 refine zar h (bz 0 46 70368744177657) (fun j1 => [(3, (.O (j1 : List Tr)))]) (fun j1 => (zcr [(29, (Enc.cells (t : Tr))), (29, [.u 0, .raw (.int .u64 0), .raw (.int .u64 0), .raw (.int .u64 0), .raw (.int .u64 0), .i 0, .i 0, .list 0 [] .full])] 29 (List.length (j1 : List Tr)) 8)) ?_ ?_
 intro or1 h hr1
 refine zo [.v (.ptr 0 7), .v (.L (t.l : List Tr)), .v (.i (List.length t.l : Int)), .v (.i 0)] ?_
 refine zn ?_
 refine zbr h (bz 0 46 70368744177273) (fun s1 => [(3, (.O (s1.1 : List Tr))), (9, .i s1.2)]) (fun s1 => (zcr [(29, (Enc.cells (t : Tr))), (29, [.u 0, .raw (.int .u64 0), .raw (.int .u64 0), .raw (.int .u64 0), .raw (.int .u64 0), .i 0, .i 0, .list 0 [] .full])] 29 (List.length (s1.1 : List Tr)) 8)) ?_ ?_
 exact zde (bl 46 910)
 intro s1 p1 h
 refine zff ?_
 refine zo [.v (.b (decide (s1.2 < (List.length t.l : Int))))] ?_
 refine zf ?_
 refine zbu h (fun hc1 h => ?_) (fun hc1 h => ?_)
 refine zf ?_
 refine zn ?_
 refine zf (zb ?_)
 obtain ⟨g1, h⟩ := zh h
 obtain ⟨x1, hx1, h⟩ := zl h
 refine zsm hx1 g1 ?_
 refine w_o (a := .A (x1 : Tr)) ?_
 refine zbp (a := .ptr 2 0) (σ'' := (zcr [(29, (Enc.cells (t : Tr))), (29, [.u 0, .raw (.int .u64 0), .raw (.int .u64 0), .raw (.int .u64 0), .raw (.int .u64 0), .i 0, .i 0, .list 0 [] .full]), (29, [.u 0, .raw (.int .u64 0), .raw (.int .u64 0), .raw (.int .u64 0), .raw (.int .u64 0), .i 0, .i 0, .list 0 [] .full])] 29 (List.length (s1.1 : List Tr)) 8)) ?_
 refine zcp 8 (zcr [(29, (Enc.cells (t : Tr))), (29, [.u 0, .raw (.int .u64 0), .raw (.int .u64 0), .raw (.int .u64 0), .raw (.int .u64 0), .i 0, .i 0, .list 0 [] .full]), (29, (Enc.cells (x1 : Tr)))] 29 (List.length (s1.1 : List Tr)) 8) ?_
 refine zb (k0 := 0) (id := 5) ?_
 refine w_r [.m _, .v (.A (x1 : Tr))] ?_
 obtain ⟨g2, h⟩ := zh h
 obtain ⟨x2, hx2, h⟩ := zl h
 refine zcf (args' := [.A (x1 : Tr)]) (r := .A (x2 : Tr)) (by rw [← hx2]; exact (ih x1 g2)) ?_
 refine w_o (a := .F ([x2] : List Tr)) (h := zbo (zgt (α := Tr) (l := [x2]) (cs := Enc.cells (x2 : Tr) ++ []) rfl (by rw [Enc.cons, Enc.nil]))) ?_
 obtain ⟨g3, h⟩ := zh h
 refine znj (a := (.O ((s1.1 ++ [x2]) : List Tr))) (σ'' := (zcr [(29, (Enc.cells (t : Tr))), (29, [.u 0, .raw (.int .u64 0), .raw (.int .u64 0), .raw (.int .u64 0), .raw (.int .u64 0), .i 0, .i 0, .list 0 [] .full]), (29, (Enc.cells (x1 : Tr)))] 29 (List.length ((s1.1 ++ [x2]) : List Tr)) 8)) rfl rfl rfl (zga rfl rfl rfl rfl (zei (α := Tr) (bs := [(29, (Enc.cells (t : Tr))), (29, [.u 0, .raw (.int .u64 0), .raw (.int .u64 0), .raw (.int .u64 0), .raw (.int .u64 0), .i 0, .i 0, .list 0 [] .full]), (29, (Enc.cells (x1 : Tr)))]) (a := s1.1) (b := [x2]) g3 rfl rfl rfl rfl rfl ⟨rfl, by decide⟩)) (by dsimp only [zab, List.set]) rfl ?_
 refine zaj ?_
 refine zb (k0 := 0) (id := 6) ?_
 obtain ⟨g4, h⟩ := zh h
 refine zov g4 ?_
 refine zaj ?_
 refine zaq (p := p1) ((s1.1 ++ [x2]), (s1.2 + 1)) h ?_
 exact zcy (bl 46 910) 2 (by kernel_rfl) (Nat.le_of_ble_eq_true rfl) (zbf (zq (zk _ _ (Enc.clo _)) (zq rfl rfl))) (by dsimp only [zaa, zag, List.foldl, List.set, bz, bzc, Nat.reduceMod, Nat.reduceDiv, Nat.reduceBEq, Nat.reduceAdd]; exact (za rfl (za (by decide) (za (by decide) (za (zbz (Enc.cloL _)) (za rfl (za rfl (za rfl (za (zai (Enc.cloL _)) (by kernel_rfl)))))))))) (by kernel_rfl)
 refine zt h (fun h => ?_)
 refine zg (o := or1) (s1.1) h ?_
 exact zde (bl 46 14)
 intro j1 h
 refine zff ?_
 refine zf ?_
 refine zo [.v (.ptr 0 0), .v (.u ((t.k : Nat) : Int))] ?_
 refine zn ?_
 refine zo [.v (.b (((t.k : Nat) : Int) == 3)), .m _] ?_
 refine zbu h (fun hc2 h => ?_) (fun hc2 h => ?_)
 refine zo [.m _] ?_
 obtain ⟨g5, h⟩ := zh h
 obtain ⟨x3, hx3, h⟩ := zl h
 refine zcf (args' := [.L (j1 : List Tr)]) (r := .A (x3 : Tr)) (by rw [← hx3]; exact (k_seq j1 g5)) ?_
 refine zcp 8 (zcr [(29, (Enc.cells (t : Tr))), (29, (Enc.cells (x3 : Tr)))] 29 (List.length (j1 : List Tr)) 8) ?_
 exact zax (fun (r : Tr) => .A (r : Tr)) h (.A (x3 : Tr))
 refine zo [.v (.b (((t.k : Nat) : Int) == 4)), .m _] ?_
 refine zbu h (fun hc3 h => ?_) (fun hc3 h => ?_)
 refine zo [.m _] ?_
 obtain ⟨g6, h⟩ := zh h
 obtain ⟨x4, hx4, h⟩ := zl h
 refine zcf (args' := [.L (j1 : List Tr)]) (r := .A (x4 : Tr)) (by rw [← hx4]; exact (k_or j1 g6)) ?_
 refine zcp 8 (zcr [(29, (Enc.cells (t : Tr))), (29, (Enc.cells (x4 : Tr)))] 29 (List.length (j1 : List Tr)) 8) ?_
 exact zax (fun (r : Tr) => .A (r : Tr)) h (.A (x4 : Tr))
 refine zo [.v (.b (((t.k : Nat) : Int) == 5)), .m _] ?_
 refine zbu h (fun hc4 h => ?_) (fun hc4 h => ?_)
 refine zf ?_
 refine zhb (k0 := 0) (id := 13) 7 (by kernel_rfl) (by kernel_rfl) ?_
 refine zho ?_
 obtain ⟨g7, h⟩ := zh h
 obtain ⟨x5, hx5, h⟩ := zl h
 refine h_o (a := .iptr (Enc.cells x5 ++ Enc.cellsL (List.drop (Int.toNat (0 : Int) + 1) j1))) (h := by rw [← hx5]; exact (qfq (α := Tr) (l := j1) g7 rfl rfl rfl rfl rfl)) ?_
 refine h_o (a := .A (x5 : Tr)) ?_
 refine h_o (a := .ptr 0 5) ?_
 refine h_o (a := .i t.mn) ?_
 refine h_o (a := .ptr 0 6) ?_
 refine h_o (a := .i t.mx) ?_
 refine zlc ?_
 obtain ⟨g8, h⟩ := zh h
 obtain ⟨x6, hx6, h⟩ := zl h
 refine zcf (args' := [.A (x5 : Tr), .i t.mn, .i t.mx]) (r := .A (x6 : Tr)) (by rw [← hx6]; exact (qet x5 t.mn t.mx g8)) ?_
 refine zcp 8 (zcr [(29, (Enc.cells (t : Tr))), (29, (Enc.cells (x6 : Tr)))] 29 (List.length (j1 : List Tr)) 8) ?_
 exact zax (fun (r : Tr) => .A (r : Tr)) h (.A (x6 : Tr))
 refine zo [.v (.b (((t.k : Nat) : Int) == 6)), .m _] ?_
 refine zbu h (fun hc5 h => ?_) (fun hc5 h => ?_)
 refine zo [.m _] ?_
 obtain ⟨g9, h⟩ := zh h
 obtain ⟨x7, hx7, h⟩ := zl h
 refine w_o (a := .iptr (Enc.cells x7 ++ Enc.cellsL (List.drop (Int.toNat (0 : Int) + 1) j1))) (h := zbo (by rw [← hx7]; exact (qfq (α := Tr) (l := j1) g9 rfl rfl rfl rfl rfl))) ?_
 refine w_o (a := .A (x7 : Tr)) ?_
 refine zcp 8 (zcr [(29, (Enc.cells (t : Tr))), (29, (Enc.cells (x7 : Tr)))] 29 (List.length (j1 : List Tr)) 8) ?_
 exact zax (fun (r : Tr) => .A (r : Tr)) h (.A (x7 : Tr))
 refine zo [.v (.A (t : Tr))] ?_
 obtain ⟨g10, h⟩ := zh h
 obtain ⟨x8, hx8, h⟩ := zl h
 refine zcf (args' := [.A (t : Tr)]) (r := .A (x8 : Tr)) (by rw [← hx8]; exact (k_copy t g10)) ?_
 refine zcp 8 (zcr [(29, (Enc.cells (t : Tr))), (29, (Enc.cells (x8 : Tr)))] 29 (List.length (j1 : List Tr)) 8) ?_
 exact zax (fun (r : Tr) => .A (r : Tr)) h (.A (x8 : Tr))
end Go.Ab
