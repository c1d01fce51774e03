/-
  rxnorm: norm.
-/
import Derived.Test.YtmoncghgagmilaaZnV9
import Derived.Test.YtmoncghgagmilaaZdQr
import Derived.Test.YtmoncghgagmilaaZnV3
import Derived.Test.YtmoncghgagmilaaZdCq
set_option linter.unusedSimpArgs false
set_option linter.unusedVariables false
namespace Go.Ab
open Go Go.RowKit Go.Fwd Go.Proofs
theorem zya {IT : IterP} {n : Nat} {α : Type} [Enc α] {l : List α} (hn : List.length l = n) (hIT : ITMono IT) {P : Program} {f : FuncId} {ar ar' : List AV} {r : AV} {σ : St} {s : Nat} {t : TypeId} {fl : Bool} (h : Pure IT P f (.list (List.length l) (Enc.cellsL l) .none :: ar') r) (has : stripL ar = ar') (hok : z7 0 ar = true) (hb : σ.boxes[s]? = some (t, Enc.cellsL l)) :
 Snd IT P f (.bsl s 0 n (Enc.sz α) fl :: ar) σ r { σ with boxes := σ.boxes.set s (t, []) } := by
 subst hn; exact z3u hIT h has hok hb
instance (l : List Tr) : Decidable (CRL l) := inferInstanceAs (Decidable (_ = true))
instance (n : Nat) (l : List Tr) : Decidable (CLn n l) := inferInstanceAs (Decidable (_ ∧ _))
instance (t : Tr) : Decidable (CR t) := inferInstanceAs (Decidable (_ = true))
instance (n : Nat) (t : Tr) : Decidable (CS n t) := inferInstanceAs (Decidable (_ ∧ _))
theorem z5b (x : Tr) (b : Bd) (h : CS 9999 x) : Pure (ITP Try.prog) Try.prog 42 [.agg (Enc.cells x), .agg (Enc.cells b)] (.agg (Enc.cells (zcx x b))) := zil x b _ (zk1 x b h)
theorem k_ncat (l : List Tr) (h : CLn 999 l) : Pure (ITP Try.prog) Try.prog 44 [.list l.length (Enc.cellsL l) .none] (.agg (Enc.cells (z40 l))) := ncat_sh 1002 l _ (cat_eq l h (by decide))
theorem k_nalt (l : List Tr) (h : CLn 998 l ∧ 0 < l.length) : Pure (ITP Try.prog) Try.prog 45 [.list l.length (Enc.cellsL l) .none] (.agg (Enc.cells (z13 l))) := nalt_sh 1002 l _ (alt_eq l h.1 (List.length_pos_iff.1 h.2) (by decide))
def z0j (t : Tr) (subs : List Tr) : Tr :=
 if t.k = 6 then zg4 (hdT subs) else if t.k = 5 then zcx (hdT subs) (ofB t) else if t.k = 3 then z40 subs else if t.k = 4 then z13 subs else t
mutual
def normT : Tr → Tr
 | .mk k s mn mx l => z0j (.mk k s mn mx l) (z4i l)
def z4i : List Tr → List Tr
 | [] => []
 | x :: l => normT x :: z4i l
end
theorem zvv : ∀ l, z4i l = l.map normT
 | [] => by rw [z4i]; rfl
 | x :: l => by rw [z4i, zvv l, List.map_cons]
theorem znz (t : Tr) : normT t = z0j t (t.l.map normT) := by
 obtain ⟨k, s, mn, mx, l⟩ := t
 rw [normT, zvv]; rfl
theorem z1i {t : Tr} (h : CR t) (hk : t.k = 6) : t.l.length = 1 := by
 have h1 := ((zbm t).1 h).1
 rw [zcm, hk] at h1
 simp at h1
 omega
theorem zn8 : ∀ (n : Nat) (t : Tr), (pre t).length ≤ n → CS 998 t → CR (normT t) ∧ (pre (normT t)).length ≤ (pre t).length
 | 0, t, hn, _ => by have := zg8 t; omega
 | n + 1, t, hn, h => by
  have hp : (pre t).length = 1 + (zai t.l).length := by rw [zc8, List.length_cons]; omega
  have hh := h.2
  have hcl := (zcq t.l).1 ((zbm t).1 h.1).2
  have key : ∀ l : List Tr, (∀ x ∈ l, (pre x).length ≤ n ∧ CS 998 x) → CRL (l.map normT) ∧ (zai (l.map normT)).length ≤ (zai l).length := by
   intro l
   induction l with
   | nil => intro _; exact ⟨zcg, Nat.le_refl _⟩
   | cons x l ih =>
    intro hl
    obtain ⟨a1, a2⟩ := ih fun y hy => hl y (List.mem_cons_of_mem _ hy)
    obtain ⟨b1, b2⟩ := hl x (by simp)
    obtain ⟨c1, c2⟩ := zn8 n x b1 b2
    rw [List.map_cons]
    refine ⟨(zap _ _).2 ⟨c1, a1⟩, ?_⟩
    simp only [zai, List.length_append]; omega
  obtain ⟨k1, k2⟩ := key t.l fun x hx => by have := zbr hx; exact ⟨by omega, hcl x hx, by omega⟩
  have hne : t.l ≠ [] → t.l.map normT ≠ [] := fun h e => h (List.map_eq_nil_iff.1 e)
  rw [znz, z0j]
  have hc : CLn 997 (t.l.map normT) := ⟨k1, by omega⟩
  by_cases h6 : t.k = 6
  ·rw [if_pos h6]
   have h1 := z1i h.1 h6
   obtain ⟨y, hy⟩ : ∃ y, t.l = [y] := by
    match hl : t.l, h1 with
    | [y], _ => exact ⟨y, rfl⟩
   rw [hy, List.map_cons, List.map_nil] at hc k2 ⊢
   show CR (zg4 (normT y)) ∧ (pre (zg4 (normT y))).length ≤ _
   have hcy := hc.mem (x := normT y) (by simp)
   have hcr : CR (Tr.mk 6 0#256 0 0 [normT y]) := (zbm _).2 ⟨zuc _, hc.1⟩
   have hpy : (pre (Tr.mk 6 0#256 0 0 [normT y])).length = 1 + (pre (normT y)).length := zh3 _ _ _ _ _
   have hcc : zg4 (normT y) = Tr.mk 6 0#256 0 0 [normT y] := zga (zfk hcr (by have := hcy.2; omega))
   rw [hcc]
   refine ⟨hcr, ?_⟩
   simp only [zai, List.length_append, List.length_nil] at k2
   rw [hy] at hp
   simp only [zai, List.length_append, List.length_nil] at hp
   omega
  rw [if_neg h6]
  by_cases h5 : t.k = 5
  ·rw [if_pos h5]
   obtain ⟨y, e1, e2, e3, e4, e5, e6⟩ := zh9 h.1 h5
   have hl : t.l = [y] := by rw [e1]; rfl
   rw [hl, List.map_cons, List.map_nil] at hc ⊢
   show CR (zcx (normT y) (ofB t)) ∧ (pre (zcx (normT y) (ofB t))).length ≤ _
   obtain ⟨c1, c2⟩ := zn8 n y (by omega) ⟨e4, by omega⟩
   have := zk8 (b := ofB t) c1.cs (by omega) e2
   exact ⟨this.1, by have := this.2; omega⟩
  rw [if_neg h5]
  by_cases h3 : t.k = 3
  ·rw [if_pos h3]
   have := cat_cs (hc.mono (by omega))
   exact ⟨this.1, by omega⟩
  rw [if_neg h3]
  by_cases h4 : t.k = 4
  ·rw [if_pos h4]
   have hl := (zdj ((zbm t).1 h.1).1 h4).1
   have := alt_cs (hc.mono (by omega)) (hne fun e => by rw [e] at hl; cases hl)
   exact ⟨this.1, by omega⟩
  ·rw [if_neg h4]; exact ⟨h.1, Nat.le_refl _⟩
end Go.Ab
set_option linter.unusedSimpArgs false
set_option linter.unusedVariables false
set_option maxRecDepth 100000
set_option maxHeartbeats 4000000
namespace Go.Ab
open Go Go.RowKit Go.Fwd Go.Proofs
def zsr (fuel : Nat) (n : Nat) (t : Tr) : Option Tr :=
 (chk (0 ≤ (List.length t.l : Int) ∧ ((80 : Nat) : Int) * (List.length t.l : Int) ≤ 281474976710656) (zdo (τ := (List Tr)) (zch (β := Int × (List Tr)) (fun s1 => (bif (decide (s1.1 < (List.length t.l : Int))) then (chk (0 ≤ s1.1 ∧ s1.1 < (List.length t.l : Int)) (zan (ix t.l s1.1) (fun x1 => (chk (((pre x1).length < n ∧ CS 998 x1)) (zan (normT x1) (fun x2 => (chk (0 ≤ s1.1 ∧ s1.1 < (((Int.toNat (List.length t.l : Int)) : Nat) : Int)) (chk (0 ≤ s1.1 ∧ s1.1 < (List.length s1.2 : Int)) (zan (ix s1.2 s1.1) (fun x3 => (chk (-9223372036854775808 ≤ (s1.1 + 1) ∧ (s1.1 + 1) < 9223372036854775808) (some (Sum.inl ((s1.1 + 1), (List.set s1.2 (Int.toNat s1.1) x2))))))))))))))) else (some (Sum.inr (Sum.inl (s1.2)))))) fuel (0, (List.replicate (Int.toNat (List.length t.l : Int)) noneT))) (fun j1 => (bif (((t.k : Nat) : Int) == 6) then (chk (0 ≤ (0 : Int) ∧ (0 : Int) < (((Int.toNat (List.length t.l : Int)) : Nat) : Int)) (chk (0 ≤ (0 : Int) ∧ (0 : Int) < (List.length j1 : Int)) (zan (ix j1 (0 : Int)) (fun x4 => (chk ((pre x4).length < 2 ^ 60) (zan (zg4 x4) (fun x5 => (some x5)))))))) else (bif (((t.k : Nat) : Int) == 5) then (chk (0 ≤ (0 : Int) ∧ (0 : Int) < (((Int.toNat (List.length t.l : Int)) : Nat) : Int)) (chk (0 ≤ (0 : Int) ∧ (0 : Int) < (List.length j1 : Int)) (zan (ix j1 (0 : Int)) (fun x6 => (zan (Bd.mk t.mn t.mx) (fun x7 => (chk (CS 9999 x6) (zan (zcx x6 x7) (fun x8 => (some x8)))))))))) else (bif (((t.k : Nat) : Int) == 3) then (chk (List.length j1 = (Int.toNat (List.length t.l : Int))) (chk (CLn 999 j1) (zan (z40 j1) (fun x9 => (some x9))))) else (bif (((t.k : Nat) : Int) == 4) then (chk (List.length j1 = (Int.toNat (List.length t.l : Int))) (chk (CLn 998 j1 ∧ 0 < List.length j1) (zan (z13 j1) (fun x10 => (some x10))))) else (some t))))))))
theorem ent28 : Ent Try.prog 28 := enters_of Try.func28 (by kernel_rfl) rfl
theorem z6l (fuel : Nat) (n : Nat) (t : Tr) (r : Tr) (ih : ∀ x : Tr, ((pre x).length < n ∧ CS 998 x) → Pure (ITP Try.prog) Try.prog 28 [.A x] (.A (normT x))) (h : zsr fuel n t = some r) : Pure (ITP Try.prog) Try.prog 28 [.A (t : Tr)] (.A (r : Tr)) := by
 unfold zsr at h
 refine zaw 48 mix Try.func28 ent28 ?_
 refine ze (zc ?_)
 refine zbc (a := .ptr 0 0) (σ'' := (.B [(30, (Enc.cells (t : Tr)))])) ?_
 refine zbc (a := .ptr 1 0) (σ'' := (.B [(30, (Enc.cells (t : Tr))), (30, [.u 0, .raw (.int .u64 0), .raw (.int .u64 0), .raw (.int .u64 0), .raw (.int .u64 0), .i 0, .i 0, .list 0 [] .full])])) ?_
 refine zw [.v (.ptr 0 7), .v (.L (t.l : List Tr)), .v (.i (List.length t.l : Int))] ?_
 obtain ⟨g1, h⟩ := zh h
 refine zj4 (a := .bsl 2 0 (Int.toNat (List.length t.l : Int)) 8 true) (σ'' := (.B [(30, (Enc.cells (t : Tr))), (30, [.u 0, .raw (.int .u64 0), .raw (.int .u64 0), .raw (.int .u64 0), .raw (.int .u64 0), .i 0, .i 0, .list 0 [] .full]), (30, (Enc.cellsL ((List.replicate (Int.toNat (List.length t.l : Int)) noneT) : List Tr)))])) rfl rfl rfl (z4e (α := Tr) (by' := 80) noneT g1 rfl rfl rfl rfl rfl rfl rfl rfl rfl ⟨rfl, by decide⟩) (by dsimp only [zn, List.set]) rfl ?_
 refine zab ?_
 refine za0 h (bz 0 49 562949953421297) (fun j1 => []) (fun j1 => (.B [(30, (Enc.cells (t : Tr))), (30, [.u 0, .raw (.int .u64 0), .raw (.int .u64 0), .raw (.int .u64 0), .raw (.int .u64 0), .i 0, .i 0, .list 0 [] .full]), (30, (Enc.cellsL (j1 : List Tr)))])) ?_ ?_
 intro or1 h hr1
 refine zw [.v (.ptr 0 7), .v (.L (t.l : List Tr)), .v (.i (List.length t.l : Int)), .v (.i 0)] ?_
 refine zr ?_
 refine zcf h (bz 0 49 562949953415153) (fun s1 => [(13, .i s1.1)]) (fun s1 => (.B [(30, (Enc.cells (t : Tr))), (30, [.u 0, .raw (.int .u64 0), .raw (.int .u64 0), .raw (.int .u64 0), .raw (.int .u64 0), .i 0, .i 0, .list 0 [] .full]), (30, (Enc.cellsL (s1.2 : List Tr)))])) ?_ ?_
 exact zc7 (bl 49 14350)
 intro s1 p1 h
 refine zf8 ?_
 refine zw [.v (.b (decide (s1.1 < (List.length t.l : Int))))] ?_
 refine ze ?_
 refine zbu h (fun hc1 h => ?_) (fun hc1 h => ?_)
 refine ze ?_
 refine zr ?_
 refine zw [.m _] ?_
 obtain ⟨g2, h⟩ := zh h
 obtain ⟨x1, hx1, h⟩ := zj h
 refine zzn hx1 g2 ?_
 refine w_o (a := .A (x1 : Tr)) ?_
 refine zbc (a := .ptr 3 0) (σ'' := (.B [(30, (Enc.cells (t : Tr))), (30, [.u 0, .raw (.int .u64 0), .raw (.int .u64 0), .raw (.int .u64 0), .raw (.int .u64 0), .i 0, .i 0, .list 0 [] .full]), (30, (Enc.cellsL (s1.2 : List Tr))), (30, [.u 0, .raw (.int .u64 0), .raw (.int .u64 0), .raw (.int .u64 0), .raw (.int .u64 0), .i 0, .i 0, .list 0 [] .full])])) ?_
 refine zab ?_
 refine zbk 8 (.B [(30, (Enc.cells (t : Tr))), (30, [.u 0, .raw (.int .u64 0), .raw (.int .u64 0), .raw (.int .u64 0), .raw (.int .u64 0), .i 0, .i 0, .list 0 [] .full]), (30, (Enc.cellsL (s1.2 : List Tr))), (30, (Enc.cells (x1 : Tr)))]) ?_
 refine zc (k0 := 0) (id := 5) ?_
 refine w_r [.m _, .m _, .v (.A (x1 : Tr))] ?_
 obtain ⟨g3, h⟩ := zh h
 obtain ⟨x2, hx2, h⟩ := zj h
 refine zbs (args' := [.A (x1 : Tr)]) (r := .A (x2 : Tr)) (by rw [← hx2]; exact (ih x1 g3)) ?_
 obtain ⟨g4, h⟩ := zh h
 refine w_o (a := .ptr 2 (0 + Int.toNat s1.1 * 8)) (h := za2 (zd9 (α := Tr) g4 rfl rfl rfl rfl rfl)) ?_
 obtain ⟨g5, h⟩ := zh h
 obtain ⟨x3, hx3, h⟩ := zj h
 refine zbc (σ'' := (.B [(30, (Enc.cells (t : Tr))), (30, [.u 0, .raw (.int .u64 0), .raw (.int .u64 0), .raw (.int .u64 0), .raw (.int .u64 0), .i 0, .i 0, .list 0 [] .full]), (30, (Enc.cellsL ((List.set s1.2 (Int.toNat s1.1) x2) : List Tr))), (30, (Enc.cells (x1 : Tr)))])) (h := zis (α := Tr) (l := s1.2) (i := s1.1) (k := 0) (te := 30) (n := 8) x2 g5 rfl rfl rfl rfl rfl rfl rfl (by decide) (by decide) (by rw [hx3]; rfl)) ?_
 refine zc (k0 := 0) (id := 6) ?_
 obtain ⟨g6, h⟩ := zh h
 refine zwt g6 ?_
 refine zab ?_
 refine zbb (p := p1) ((s1.1 + 1), (List.set s1.2 (Int.toNat s1.1) x2)) h ?_
 exact zb3 (bl 49 14350) 3 (by kernel_rfl) (Nat.le_of_ble_eq_true rfl) (zba (zv (zo _ _ (Enc.clo _)) (zv rfl (zv (zo _ _ (Enc.cloL _)) rfl)))) (by dsimp only [zz, zad, List.foldl, List.set, bz, bzc, Nat.reduceMod, Nat.reduceDiv, Nat.reduceBEq, Nat.reduceAdd]; exact (zb rfl (zb (by decide) (zb (by decide) (zb rfl (zb rfl (zb rfl (zb rfl (zb rfl (zb rfl (zb rfl (zb rfl (zb (zah (Enc.cloL _)) (by kernel_rfl)))))))))))))) (by kernel_rfl)
 refine zae h (fun h => ?_)
 refine zg (o := or1) (s1.2) h ?_
 exact zc7 (bl 49 14)
 intro j1 h
 refine zf8 ?_
 refine ze ?_
 refine zw [.v (.ptr 0 0), .v (.u ((t.k : Nat) : Int))] ?_
 refine zr ?_
 refine zw [.v (.b (((t.k : Nat) : Int) == 6)), .m _] ?_
 refine zbu h (fun hc2 h => ?_) (fun hc2 h => ?_)
 refine zw [.m _] ?_
 obtain ⟨g7, h⟩ := zh h
 refine w_o (a := .ptr 2 (0 + Int.toNat (0 : Int) * 8)) (h := za2 (zd9 (α := Tr) g7 rfl rfl rfl rfl rfl)) ?_
 obtain ⟨g8, h⟩ := zh h
 obtain ⟨x4, hx4, h⟩ := zj h
 refine w_o (a := .A (x4 : Tr)) (h := za2 (by rw [← hx4]; exact (zc6 (α := Tr) (l := j1) (i := (0 : Int)) (k := 0) (te := 30) g8 rfl rfl rfl rfl))) ?_
 obtain ⟨g9, h⟩ := zh h
 obtain ⟨x5, hx5, h⟩ := zj h
 refine zbs (args' := [.A (x4 : Tr)]) (r := .A (x5 : Tr)) (by rw [← hx5]; exact (z3s x4 g9)) ?_
 refine zbk 8 (.B [(30, (Enc.cells (t : Tr))), (30, (Enc.cells (x5 : Tr))), (30, (Enc.cellsL (j1 : List Tr)))]) ?_
 exact zal (fun (r : Tr) => .A (r : Tr)) h (.A (x5 : Tr))
 refine zw [.v (.b (((t.k : Nat) : Int) == 5)), .m _] ?_
 refine zbu h (fun hc3 h => ?_) (fun hc3 h => ?_)
 refine ze ?_
 refine zcw (k0 := 0) (id := 11) 5 (by kernel_rfl) (by kernel_rfl) ?_
 refine zgc ?_
 obtain ⟨g10, h⟩ := zh h
 refine h_o (a := .ptr 2 (0 + Int.toNat (0 : Int) * 8)) (h := zd9 (α := Tr) g10 rfl rfl rfl rfl rfl) ?_
 obtain ⟨g11, h⟩ := zh h
 obtain ⟨x6, hx6, h⟩ := zj h
 refine h_o (a := .A (x6 : Tr)) (h := by rw [← hx6]; exact (zc6 (α := Tr) (l := j1) (i := (0 : Int)) (k := 0) (te := 30) g11 rfl rfl rfl rfl)) ?_
 refine h_o (a := .A (t : Tr)) ?_
 obtain ⟨x7, hx7, h⟩ := zj h
 refine zni (args' := [.A (t : Tr)]) (r := .A (x7 : Bd)) (by rw [← hx7]; exact (zrd t _ rfl)) ?_
 refine zdr ?_
 obtain ⟨g12, h⟩ := zh h
 obtain ⟨x8, hx8, h⟩ := zj h
 refine zbs (args' := [.A (x6 : Tr), .A (x7 : Bd)]) (r := .A (x8 : Tr)) (by rw [← hx8]; exact (z5b x6 x7 g12)) ?_
 refine zbk 8 (.B [(30, (Enc.cells (t : Tr))), (30, (Enc.cells (x8 : Tr))), (30, (Enc.cellsL (j1 : List Tr)))]) ?_
 exact zal (fun (r : Tr) => .A (r : Tr)) h (.A (x8 : Tr))
 refine zw [.v (.b (((t.k : Nat) : Int) == 3)), .m _] ?_
 refine zbu h (fun hc4 h => ?_) (fun hc4 h => ?_)
 refine zw [.m _] ?_
 obtain ⟨g13, h⟩ := zh h
 obtain ⟨g14, h⟩ := zh h
 obtain ⟨x9, hx9, h⟩ := zj h
 refine zvl (r := .A (x9 : Tr)) (σ' := (.B [(30, (Enc.cells (t : Tr))), (30, [.u 0, .raw (.int .u64 0), .raw (.int .u64 0), .raw (.int .u64 0), .raw (.int .u64 0), .i 0, .i 0, .list 0 [] .full]), (30, (Enc.cellsL (([] : List Tr) : List Tr)))])) (zya g13 (α := Tr) (t := 30) (l := j1) (ar := []) (ar' := []) (r := .A (x9 : Tr)) (zas _) (by rw [← hx9]; exact (k_ncat j1 g14)) rfl rfl rfl) rfl rfl ⟨rfl, rfl⟩ (by dsimp only [zn, List.set]) ?_
 refine zbk 8 (.B [(30, (Enc.cells (t : Tr))), (30, (Enc.cells (x9 : Tr))), (30, (Enc.cellsL (([] : List Tr) : List Tr)))]) ?_
 exact zal (fun (r : Tr) => .A (r : Tr)) h (.A (x9 : Tr))
 refine zw [.v (.b (((t.k : Nat) : Int) == 4)), .m _] ?_
 refine zbu h (fun hc5 h => ?_) (fun hc5 h => ?_)
 refine zw [.m _] ?_
 obtain ⟨g15, h⟩ := zh h
 obtain ⟨g16, h⟩ := zh h
 obtain ⟨x10, hx10, h⟩ := zj h
 refine zvl (r := .A (x10 : Tr)) (σ' := (.B [(30, (Enc.cells (t : Tr))), (30, [.u 0, .raw (.int .u64 0), .raw (.int .u64 0), .raw (.int .u64 0), .raw (.int .u64 0), .i 0, .i 0, .list 0 [] .full]), (30, (Enc.cellsL (([] : List Tr) : List Tr)))])) (zya g15 (α := Tr) (t := 30) (l := j1) (ar := []) (ar' := []) (r := .A (x10 : Tr)) (zas _) (by rw [← hx10]; exact (k_nalt j1 g16)) rfl rfl rfl) rfl rfl ⟨rfl, rfl⟩ (by dsimp only [zn, List.set]) ?_
 refine zbk 8 (.B [(30, (Enc.cells (t : Tr))), (30, (Enc.cells (x10 : Tr))), (30, (Enc.cellsL (([] : List Tr) : List Tr)))]) ?_
 exact zal (fun (r : Tr) => .A (r : Tr)) h (.A (x10 : Tr))
 refine zw [.v (.A (t : Tr))] ?_
 refine zbk 8 (.B [(30, (Enc.cells (t : Tr))), (30, (Enc.cells (t : Tr))), (30, (Enc.cellsL (j1 : List Tr)))]) ?_
 exact zal (fun (r : Tr) => .A (r : Tr)) h (.A (t : Tr))
end Go.Ab
