/-
  rxnorm: norm.
-/
import Derived.Test.YtmoncghgagmilaaZnV9
import Derived.Test.YtmoncghgagmilaaZdQq
import Derived.Test.YtmoncghgagmilaaZnV3
import Derived.Test.YtmoncghgagmilaaZnW1
set_option linter.unusedSimpArgs false
set_option linter.unusedVariables false
namespace Go.Ab
open Go Go.RowKit Go.Fwd Go.Proofs
theorem zye {IT : IterP} {n : Nat} {α : Type} [Enc α] {l : List α} (hn : List.length l = n) (hIT : ITMono IT) {P : Program} {f : FuncId} {ar ar' : List AV} {r : AV} {σ : St} {s : Nat} {t : TypeId} {fl : Bool} (h : Pure IT P f (.list (List.length l) (Enc.cellsL l) .none :: ar') r) (has : stripL ar = ar') (hok : z7 0 ar = true) (hb : σ.boxes[s]? = some (t, Enc.cellsL l)) :
 Snd IT P f (.bsl s 0 n (Enc.sz α) fl :: ar) σ r { σ with boxes := σ.boxes.set s (t, []) } := by
 subst hn; exact z3d hIT h has hok hb
instance (l : List Tr) : Decidable (CRL l) := inferInstanceAs (Decidable (_ = true))
instance (n : Nat) (l : List Tr) : Decidable (CLn n l) := inferInstanceAs (Decidable (_ ∧ _))
instance (t : Tr) : Decidable (CR t) := inferInstanceAs (Decidable (_ = true))
instance (n : Nat) (t : Tr) : Decidable (CS n t) := inferInstanceAs (Decidable (_ ∧ _))
theorem z7g (x : Tr) (b : Bd) (h : CS 9999 x) : Pure (ITP Try.prog) Try.prog 42 [.agg (Enc.cells x), .agg (Enc.cells b)] (.agg (Enc.cells (z8 x b))) := zi9 x b _ (zks x b h)
theorem k_ncat (l : List Tr) (h : CLn 999 l) : Pure (ITP Try.prog) Try.prog 44 [.list l.length (Enc.cellsL l) .none] (.agg (Enc.cells (zyd l))) := ncat_sh 1002 l _ (cat_eq l h (by decide))
theorem k_nalt (l : List Tr) (h : CLn 998 l ∧ 0 < l.length) : Pure (ITP Try.prog) Try.prog 45 [.list l.length (Enc.cellsL l) .none] (.agg (Enc.cells (z0o l))) := nalt_sh 1002 l _ (alt_eq l h.1 (List.length_pos_iff.1 h.2) (by decide))
def zsj (t : Tr) (subs : List Tr) : Tr :=
 if t.k = 6 then zfu (hdT subs) else if t.k = 5 then z8 (hdT subs) (ofB t) else if t.k = 3 then zyd subs else if t.k = 4 then z0o subs else t
mutual
def normT : Tr → Tr
 | .mk k s mn mx l => zsj (.mk k s mn mx l) (z2v l)
def z2v : List Tr → List Tr
 | [] => []
 | x :: l => normT x :: z2v l
end
theorem zv0 : ∀ l, z2v l = l.map normT
 | [] => by rw [z2v]; rfl
 | x :: l => by rw [z2v, zv0 l, List.map_cons]
theorem zia (t : Tr) : normT t = zsj t (t.l.map normT) := by
 obtain ⟨k, s, mn, mx, l⟩ := t
 rw [normT, zv0]; rfl
theorem zws {t : Tr} (h : CR t) (hk : t.k = 6) : t.l.length = 1 := by
 have h1 := ((zbc t).1 h).1
 rw [zcq, hk] at h1
 simp at h1
 omega
theorem zoq : ∀ (n : Nat) (t : Tr), (pre t).length ≤ n → CS 998 t → CR (normT t) ∧ (pre (normT t)).length ≤ (pre t).length
 | 0, t, hn, _ => by have := zfl t; omega
 | n + 1, t, hn, h => by
  have hp : (pre t).length = 1 + (zam t.l).length := by rw [zcw, List.length_cons]; omega
  have hh := h.2
  have hcl := (zcu t.l).1 ((zbc t).1 h.1).2
  have key : ∀ l : List Tr, (∀ x ∈ l, (pre x).length ≤ n ∧ CS 998 x) → CRL (l.map normT) ∧ (zam (l.map normT)).length ≤ (zam l).length := by
   intro l
   induction l with
   | nil => intro _; exact ⟨zb0, Nat.le_refl _⟩
   | cons x l ih =>
    intro hl
    obtain ⟨a1, a2⟩ := ih fun y hy => hl y (List.mem_cons_of_mem _ hy)
    obtain ⟨b1, b2⟩ := hl x (by simp)
    obtain ⟨c1, c2⟩ := zoq n x b1 b2
    rw [List.map_cons]
    refine ⟨(zao _ _).2 ⟨c1, a1⟩, ?_⟩
    simp only [zam, List.length_append]; omega
  obtain ⟨k1, k2⟩ := key t.l fun x hx => by have := zbt hx; exact ⟨by omega, hcl x hx, by omega⟩
  have hne : t.l ≠ [] → t.l.map normT ≠ [] := fun h e => h (List.map_eq_nil_iff.1 e)
  rw [zia, zsj]
  have hc : CLn 997 (t.l.map normT) := ⟨k1, by omega⟩
  by_cases h6 : t.k = 6
  ·rw [if_pos h6]
   have h1 := zws h.1 h6
   obtain ⟨y, hy⟩ : ∃ y, t.l = [y] := by
    match hl : t.l, h1 with
    | [y], _ => exact ⟨y, rfl⟩
   rw [hy, List.map_cons, List.map_nil] at hc k2 ⊢
   show CR (zfu (normT y)) ∧ (pre (zfu (normT y))).length ≤ _
   have hcy := hc.mem (x := normT y) (by simp)
   have hcr : CR (Tr.mk 6 0#256 0 0 [normT y]) := (zbc _).2 ⟨zpj _, hc.1⟩
   have hpy : (pre (Tr.mk 6 0#256 0 0 [normT y])).length = 1 + (pre (normT y)).length := zgq _ _ _ _ _
   have hcc : zfu (normT y) = Tr.mk 6 0#256 0 0 [normT y] := zfj (zfc hcr (by have := hcy.2; omega))
   rw [hcc]
   refine ⟨hcr, ?_⟩
   simp only [zam, List.length_append, List.length_nil] at k2
   rw [hy] at hp
   simp only [zam, List.length_append, List.length_nil] at hp
   omega
  rw [if_neg h6]
  by_cases h5 : t.k = 5
  ·rw [if_pos h5]
   obtain ⟨y, e1, e2, e3, e4, e5, e6⟩ := zg5 h.1 h5
   have hl : t.l = [y] := by rw [e1]; rfl
   rw [hl, List.map_cons, List.map_nil] at hc ⊢
   show CR (z8 (normT y) (ofB t)) ∧ (pre (z8 (normT y) (ofB t))).length ≤ _
   obtain ⟨c1, c2⟩ := zoq n y (by omega) ⟨e4, by omega⟩
   have := zg2 (b := ofB t) c1.cs (by omega) e2
   exact ⟨this.1, by have := this.2; omega⟩
  rw [if_neg h5]
  by_cases h3 : t.k = 3
  ·rw [if_pos h3]
   have := cat_cs (hc.mono (by omega))
   exact ⟨this.1, by omega⟩
  rw [if_neg h3]
  by_cases h4 : t.k = 4
  ·rw [if_pos h4]
   have hl := (zb9 ((zbc t).1 h.1).1 h4).1
   have := alt_cs (hc.mono (by omega)) (hne fun e => by rw [e] at hl; cases hl)
   exact ⟨this.1, by omega⟩
  ·rw [if_neg h4]; exact ⟨h.1, Nat.le_refl _⟩
end Go.Ab
set_option linter.unusedSimpArgs false
set_option linter.unusedVariables false
set_option maxRecDepth 100000
set_option maxHeartbeats 4000000
namespace Go.Ab
open Go Go.RowKit Go.Fwd Go.Proofs
def zr0 (fuel : Nat) (n : Nat) (t : Tr) : Option Tr :=
 (chk (0 ≤ (List.length t.l : Int) ∧ ((80 : Nat) : Int) * (List.length t.l : Int) ≤ 281474976710656) (zds (τ := (List Tr)) (zcl (β := Int × (List Tr)) (fun s1 => (bif (decide (s1.1 < (List.length t.l : Int))) then (chk (0 ≤ s1.1 ∧ s1.1 < (List.length t.l : Int)) (zal (ix t.l s1.1) (fun x1 => (chk (((pre x1).length < n ∧ CS 998 x1)) (zal (normT x1) (fun x2 => (chk (0 ≤ s1.1 ∧ s1.1 < (((Int.toNat (List.length t.l : Int)) : Nat) : Int)) (chk (0 ≤ s1.1 ∧ s1.1 < (List.length s1.2 : Int)) (zal (ix s1.2 s1.1) (fun x3 => (chk (-9223372036854775808 ≤ (s1.1 + 1) ∧ (s1.1 + 1) < 9223372036854775808) (some (Sum.inl ((s1.1 + 1), (List.set s1.2 (Int.toNat s1.1) x2))))))))))))))) else (some (Sum.inr (Sum.inl (s1.2)))))) fuel (0, (List.replicate (Int.toNat (List.length t.l : Int)) noneT))) (fun j1 => (bif (((t.k : Nat) : Int) == 6) then (chk (0 ≤ (0 : Int) ∧ (0 : Int) < (((Int.toNat (List.length t.l : Int)) : Nat) : Int)) (chk (0 ≤ (0 : Int) ∧ (0 : Int) < (List.length j1 : Int)) (zal (ix j1 (0 : Int)) (fun x4 => (chk ((pre x4).length < 2 ^ 60) (zal (zfu x4) (fun x5 => (some x5)))))))) else (bif (((t.k : Nat) : Int) == 5) then (chk (0 ≤ (0 : Int) ∧ (0 : Int) < (((Int.toNat (List.length t.l : Int)) : Nat) : Int)) (chk (0 ≤ (0 : Int) ∧ (0 : Int) < (List.length j1 : Int)) (zal (ix j1 (0 : Int)) (fun x6 => (zal (Bd.mk t.mn t.mx) (fun x7 => (chk (CS 9999 x6) (zal (z8 x6 x7) (fun x8 => (some x8)))))))))) else (bif (((t.k : Nat) : Int) == 3) then (chk (List.length j1 = (Int.toNat (List.length t.l : Int))) (chk (CLn 999 j1) (zal (zyd j1) (fun x9 => (some x9))))) else (bif (((t.k : Nat) : Int) == 4) then (chk (List.length j1 = (Int.toNat (List.length t.l : Int))) (chk (CLn 998 j1 ∧ 0 < List.length j1) (zal (z0o j1) (fun x10 => (some x10))))) else (some t))))))))
theorem ent28 : Ent Try.prog 28 := enters_of Try.func28 (by kernel_rfl) rfl
theorem z5r (fuel : Nat) (n : Nat) (t : Tr) (r : Tr) (ih : ∀ x : Tr, ((pre x).length < n ∧ CS 998 x) → Pure (ITP Try.prog) Try.prog 28 [.A x] (.A (normT x))) (h : zr0 fuel n t = some r) : Pure (ITP Try.prog) Try.prog 28 [.A (t : Tr)] (.A (r : Tr)) := by
 unfold zr0 at h
 refine zax 48 mix Try.func28 ent28 ?_
 refine ze (zd ?_)
 refine zbj (a := .ptr 0 0) (σ'' := (.B [(30, (Enc.cells (t : Tr)))])) ?_
 refine zbj (a := .ptr 1 0) (σ'' := (.B [(30, (Enc.cells (t : Tr))), (30, [.u 0, .raw (.int .u64 0), .raw (.int .u64 0), .raw (.int .u64 0), .raw (.int .u64 0), .i 0, .i 0, .list 0 [] .full])])) ?_
 refine zr [.v (.ptr 0 7), .v (.L (t.l : List Tr)), .v (.i (List.length t.l : Int))] ?_
 obtain ⟨g1, h⟩ := zh h
 refine zka (a := .bsl 2 0 (Int.toNat (List.length t.l : Int)) 8 true) (σ'' := (.B [(30, (Enc.cells (t : Tr))), (30, [.u 0, .raw (.int .u64 0), .raw (.int .u64 0), .raw (.int .u64 0), .raw (.int .u64 0), .i 0, .i 0, .list 0 [] .full]), (30, (Enc.cellsL ((List.replicate (Int.toNat (List.length t.l : Int)) noneT) : List Tr)))])) rfl rfl rfl (z1a (α := Tr) (by' := 80) noneT g1 rfl rfl rfl rfl rfl rfl rfl rfl rfl ⟨rfl, by decide⟩) (by dsimp only [zp, List.set]) rfl ?_
 refine zad ?_
 refine za3 h (bz 0 49 562949953421297) (fun j1 => []) (fun j1 => (.B [(30, (Enc.cells (t : Tr))), (30, [.u 0, .raw (.int .u64 0), .raw (.int .u64 0), .raw (.int .u64 0), .raw (.int .u64 0), .i 0, .i 0, .list 0 [] .full]), (30, (Enc.cellsL (j1 : List Tr)))])) ?_ ?_
 intro or1 h hr1
 refine zr [.v (.ptr 0 7), .v (.L (t.l : List Tr)), .v (.i (List.length t.l : Int)), .v (.i 0)] ?_
 refine zt ?_
 refine zcp h (bz 0 49 562949953415153) (fun s1 => [(13, .i s1.1)]) (fun s1 => (.B [(30, (Enc.cells (t : Tr))), (30, [.u 0, .raw (.int .u64 0), .raw (.int .u64 0), .raw (.int .u64 0), .raw (.int .u64 0), .i 0, .i 0, .list 0 [] .full]), (30, (Enc.cellsL (s1.2 : List Tr)))])) ?_ ?_
 exact zc1 (bl 49 14350)
 intro s1 p1 h
 refine zf9 ?_
 refine zr [.v (.b (decide (s1.1 < (List.length t.l : Int))))] ?_
 refine ze ?_
 refine zbv h (fun hc1 h => ?_) (fun hc1 h => ?_)
 refine ze ?_
 refine zt ?_
 refine zr [.m _] ?_
 obtain ⟨g2, h⟩ := zh h
 obtain ⟨x1, hx1, h⟩ := zj h
 refine zwf hx1 g2 ?_
 refine w_o (a := .A (x1 : Tr)) ?_
 refine zbj (a := .ptr 3 0) (σ'' := (.B [(30, (Enc.cells (t : Tr))), (30, [.u 0, .raw (.int .u64 0), .raw (.int .u64 0), .raw (.int .u64 0), .raw (.int .u64 0), .i 0, .i 0, .list 0 [] .full]), (30, (Enc.cellsL (s1.2 : List Tr))), (30, [.u 0, .raw (.int .u64 0), .raw (.int .u64 0), .raw (.int .u64 0), .raw (.int .u64 0), .i 0, .i 0, .list 0 [] .full])])) ?_
 refine zad ?_
 refine zbm 8 (.B [(30, (Enc.cells (t : Tr))), (30, [.u 0, .raw (.int .u64 0), .raw (.int .u64 0), .raw (.int .u64 0), .raw (.int .u64 0), .i 0, .i 0, .list 0 [] .full]), (30, (Enc.cellsL (s1.2 : List Tr))), (30, (Enc.cells (x1 : Tr)))]) ?_
 refine zd (k0 := 0) (id := 5) ?_
 refine w_r [.m _, .m _, .v (.A (x1 : Tr))] ?_
 obtain ⟨g3, h⟩ := zh h
 obtain ⟨x2, hx2, h⟩ := zj h
 refine zbq (args' := [.A (x1 : Tr)]) (r := .A (x2 : Tr)) (by rw [← hx2]; exact (ih x1 g3)) ?_
 obtain ⟨g4, h⟩ := zh h
 refine w_o (a := .ptr 2 (0 + Int.toNat s1.1 * 8)) (h := zbs (zea (α := Tr) g4 rfl rfl rfl rfl rfl)) ?_
 obtain ⟨g5, h⟩ := zh h
 obtain ⟨x3, hx3, h⟩ := zj h
 refine zbj (σ'' := (.B [(30, (Enc.cells (t : Tr))), (30, [.u 0, .raw (.int .u64 0), .raw (.int .u64 0), .raw (.int .u64 0), .raw (.int .u64 0), .i 0, .i 0, .list 0 [] .full]), (30, (Enc.cellsL ((List.set s1.2 (Int.toNat s1.1) x2) : List Tr))), (30, (Enc.cells (x1 : Tr)))])) (h := zix (α := Tr) (l := s1.2) (i := s1.1) (k := 0) (te := 30) (n := 8) x2 g5 rfl rfl rfl rfl rfl rfl rfl (by decide) (by decide) (by rw [hx3]; rfl)) ?_
 refine zd (k0 := 0) (id := 6) ?_
 obtain ⟨g6, h⟩ := zh h
 refine zv1 g6 ?_
 refine zad ?_
 refine zbn (p := p1) ((s1.1 + 1), (List.set s1.2 (Int.toNat s1.1) x2)) h ?_
 exact zcn (bl 49 14350) 3 (by kernel_rfl) (Nat.le_of_ble_eq_true rfl) (zbi (zv (zm _ _ (Enc.clo _)) (zv rfl (zv (zm _ _ (Enc.cloL _)) rfl)))) (by dsimp only [zaf, zae, List.foldl, List.set, bz, bzc, Nat.reduceMod, Nat.reduceDiv, Nat.reduceBEq, Nat.reduceAdd]; exact (zb rfl (zb (by decide) (zb (by decide) (zb rfl (zb rfl (zb rfl (zb rfl (zb rfl (zb rfl (zb rfl (zb rfl (zb (zar (Enc.cloL _)) (by kernel_rfl)))))))))))))) (by kernel_rfl)
 refine zac h (fun h => ?_)
 refine zg (o := or1) (s1.2) h ?_
 exact zc1 (bl 49 14)
 intro j1 h
 refine zf9 ?_
 refine ze ?_
 refine zr [.v (.ptr 0 0), .v (.u ((t.k : Nat) : Int))] ?_
 refine zt ?_
 refine zr [.v (.b (((t.k : Nat) : Int) == 6)), .m _] ?_
 refine zbv h (fun hc2 h => ?_) (fun hc2 h => ?_)
 refine zr [.m _] ?_
 obtain ⟨g7, h⟩ := zh h
 refine w_o (a := .ptr 2 (0 + Int.toNat (0 : Int) * 8)) (h := zbs (zea (α := Tr) g7 rfl rfl rfl rfl rfl)) ?_
 obtain ⟨g8, h⟩ := zh h
 obtain ⟨x4, hx4, h⟩ := zj h
 refine w_o (a := .A (x4 : Tr)) (h := zbs (by rw [← hx4]; exact (zc6 (α := Tr) (l := j1) (i := (0 : Int)) (k := 0) (te := 30) g8 rfl rfl rfl rfl))) ?_
 obtain ⟨g9, h⟩ := zh h
 obtain ⟨x5, hx5, h⟩ := zj h
 refine zbq (args' := [.A (x4 : Tr)]) (r := .A (x5 : Tr)) (by rw [← hx5]; exact (z4a x4 g9)) ?_
 refine zbm 8 (.B [(30, (Enc.cells (t : Tr))), (30, (Enc.cells (x5 : Tr))), (30, (Enc.cellsL (j1 : List Tr)))]) ?_
 exact zap (fun (r : Tr) => .A (r : Tr)) h (.A (x5 : Tr))
 refine zr [.v (.b (((t.k : Nat) : Int) == 5)), .m _] ?_
 refine zbv h (fun hc3 h => ?_) (fun hc3 h => ?_)
 refine ze ?_
 refine zck (k0 := 0) (id := 11) 5 (by kernel_rfl) (by kernel_rfl) ?_
 refine zd1 ?_
 obtain ⟨g10, h⟩ := zh h
 refine h_o (a := .ptr 2 (0 + Int.toNat (0 : Int) * 8)) (h := zea (α := Tr) g10 rfl rfl rfl rfl rfl) ?_
 obtain ⟨g11, h⟩ := zh h
 obtain ⟨x6, hx6, h⟩ := zj h
 refine h_o (a := .A (x6 : Tr)) (h := by rw [← hx6]; exact (zc6 (α := Tr) (l := j1) (i := (0 : Int)) (k := 0) (te := 30) g11 rfl rfl rfl rfl)) ?_
 refine h_o (a := .A (t : Tr)) ?_
 obtain ⟨x7, hx7, h⟩ := zj h
 refine zfd (args' := [.A (t : Tr)]) (r := .A (x7 : Bd)) (by rw [← hx7]; exact (zqc t _ rfl)) ?_
 refine zb7 ?_
 obtain ⟨g12, h⟩ := zh h
 obtain ⟨x8, hx8, h⟩ := zj h
 refine zbq (args' := [.A (x6 : Tr), .A (x7 : Bd)]) (r := .A (x8 : Tr)) (by rw [← hx8]; exact (z7g x6 x7 g12)) ?_
 refine zbm 8 (.B [(30, (Enc.cells (t : Tr))), (30, (Enc.cells (x8 : Tr))), (30, (Enc.cellsL (j1 : List Tr)))]) ?_
 exact zap (fun (r : Tr) => .A (r : Tr)) h (.A (x8 : Tr))
 refine zr [.v (.b (((t.k : Nat) : Int) == 3)), .m _] ?_
 refine zbv h (fun hc4 h => ?_) (fun hc4 h => ?_)
 refine zr [.m _] ?_
 obtain ⟨g13, h⟩ := zh h
 obtain ⟨g14, h⟩ := zh h
 obtain ⟨x9, hx9, h⟩ := zj h
 refine zu1 (r := .A (x9 : Tr)) (σ' := (.B [(30, (Enc.cells (t : Tr))), (30, [.u 0, .raw (.int .u64 0), .raw (.int .u64 0), .raw (.int .u64 0), .raw (.int .u64 0), .i 0, .i 0, .list 0 [] .full]), (30, (Enc.cellsL (([] : List Tr) : List Tr)))])) (zye g13 (α := Tr) (t := 30) (l := j1) (ar := []) (ar' := []) (r := .A (x9 : Tr)) (zav _) (by rw [← hx9]; exact (k_ncat j1 g14)) rfl rfl rfl) rfl rfl ⟨rfl, rfl⟩ (by dsimp only [zp, List.set]) ?_
 refine zbm 8 (.B [(30, (Enc.cells (t : Tr))), (30, (Enc.cells (x9 : Tr))), (30, (Enc.cellsL (([] : List Tr) : List Tr)))]) ?_
 exact zap (fun (r : Tr) => .A (r : Tr)) h (.A (x9 : Tr))
 refine zr [.v (.b (((t.k : Nat) : Int) == 4)), .m _] ?_
 refine zbv h (fun hc5 h => ?_) (fun hc5 h => ?_)
 refine zr [.m _] ?_
 obtain ⟨g15, h⟩ := zh h
 obtain ⟨g16, h⟩ := zh h
 obtain ⟨x10, hx10, h⟩ := zj h
 refine zu1 (r := .A (x10 : Tr)) (σ' := (.B [(30, (Enc.cells (t : Tr))), (30, [.u 0, .raw (.int .u64 0), .raw (.int .u64 0), .raw (.int .u64 0), .raw (.int .u64 0), .i 0, .i 0, .list 0 [] .full]), (30, (Enc.cellsL (([] : List Tr) : List Tr)))])) (zye g15 (α := Tr) (t := 30) (l := j1) (ar := []) (ar' := []) (r := .A (x10 : Tr)) (zav _) (by rw [← hx10]; exact (k_nalt j1 g16)) rfl rfl rfl) rfl rfl ⟨rfl, rfl⟩ (by dsimp only [zp, List.set]) ?_
 refine zbm 8 (.B [(30, (Enc.cells (t : Tr))), (30, (Enc.cells (x10 : Tr))), (30, (Enc.cellsL (([] : List Tr) : List Tr)))]) ?_
 exact zap (fun (r : Tr) => .A (r : Tr)) h (.A (x10 : Tr))
 refine zr [.v (.A (t : Tr))] ?_
 refine zbm 8 (.B [(30, (Enc.cells (t : Tr))), (30, (Enc.cells (t : Tr))), (30, (Enc.cellsL (j1 : List Tr)))]) ?_
 exact zap (fun (r : Tr) => .A (r : Tr)) h (.A (t : Tr))
end Go.Ab
