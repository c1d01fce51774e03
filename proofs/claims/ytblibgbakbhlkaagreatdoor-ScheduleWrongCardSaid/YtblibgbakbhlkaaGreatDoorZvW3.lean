/-
  schedule: Write.
-/
import Derived.Test.YtblibgbakbhlkaaGreatDoorZvQc
import Derived.Test.YtblibgbakbhlkaaGreatDoorZvSt
import Derived.Test.YtblibgbakbhlkaaGreatDoorZvPz
import Derived.Test.YtblibgbakbhlkaaGreatDoorZdQp
set_option linter.unusedSimpArgs false
set_option linter.unusedVariables false
namespace Go.Ab
open Go Go.RowKit Go.Fwd
def cpy {α : Type} (l : List α) (o : Nat) (r : List α) : List α := l.take o ++ r ++ l.drop (o + r.length)
section
variable {P : Program} {ρ : Operand → AV} {σ : St} {o : Oper} {α : Type} [Enc α]
theorem q_bslL {t e : TypeId} {x i : Operand} {s n : Nat} {f : Bool} {k : IntKind} {j : Int} (g : 0 ≤ j ∧ j < n) (ho : o.op = .slice t x (some i) none none) (hx : ρ x = .bsl s 0 n (Enc.sz α) f) (hi : ρ i = .raw (.int k j)) (hu : P.underlying t = some (.slice e)) (hs : sizeT P e = some (Enc.sz α)) :
    qop P ρ σ o = some (.bsl s (j.toNat * Enc.sz α) (n - j.toNat) (Enc.sz α) f) := by
  have h4 : aBounds n (some (.raw (.int k j))) none none = some (j.toNat, n, false) := by
    have c : 0 ≤ j ∧ j ≤ (n : Int) := by omega
    simp only [aBounds, aBound, if_pos c]
  have hlt : j.toNat < n := by omega
  simp only [qop, ho, hx, hi, Option.map_some, Option.map_none, aSlice, hu, hs, h4, if_true, if_pos hlt, Nat.zero_add]
  simp
theorem q_bslH {t e : TypeId} {x i : Operand} {s n : Nat} {f : Bool} {k : IntKind} {j : Int} (g : 0 < j ∧ j ≤ n) (ho : o.op = .slice t x none (some i) none) (hx : ρ x = .bsl s 0 n (Enc.sz α) f) (hi : ρ i = .raw (.int k j)) (hu : P.underlying t = some (.slice e)) (hs : sizeT P e = some (Enc.sz α)) :
    qop P ρ σ o = some (.bsl s 0 j.toNat (Enc.sz α) (f && (j.toNat == n))) := by
  have h4 : aBounds n none (some (.raw (.int k j))) none = some (0, j.toNat, false) := by
    have c : 0 ≤ j ∧ j ≤ (n : Int) := by omega
    simp only [aBounds, aBound, if_pos c]
  have hlt : 0 < j.toNat := by omega
  simp only [qop, ho, hx, hi, Option.map_some, Option.map_none, aSlice, hu, hs, h4, if_true, if_pos hlt, Nat.zero_add, Nat.zero_mul, Nat.sub_zero]
  simp
theorem cp_list {r : List α} {st : Room} : aCpSrc σ (Enc.sz α) (.list r.length (Enc.cellsL r) st) = some (r.length, Enc.cellsL r) := by
  simp only [aCpSrc, Enc.lenL, Enc.pos, and_self, if_true]
theorem cp_box {l : List α} {s o2 n2 : Nat} {f : Bool} {t0 : TypeId} (hb : σ.boxes[s]? = some (t0, Enc.cellsL l)) (h : o2 + n2 ≤ l.length) : aCpSrc σ (Enc.sz α) (.bsl s (o2 * Enc.sz α) n2 (Enc.sz α) f) = some (n2, Enc.cellsL ((l.drop o2).take n2)) := by
  unfold aCpSrc
  simp only [hb]
  rw [if_pos ⟨trivial, by rw [Enc.lenL, ← Nat.add_mul]; exact Nat.mul_le_mul_right _ h⟩, Enc.drop, Enc.take]
theorem cp_box0 {l : List α} {s n2 : Nat} {f : Bool} {t0 : TypeId} (hb : σ.boxes[s]? = some (t0, Enc.cellsL l)) (h : n2 ≤ l.length) : aCpSrc σ (Enc.sz α) (.bsl s 0 n2 (Enc.sz α) f) = some (n2, Enc.cellsL (l.take n2)) := by
  have := cp_box (α := α) (o2 := 0) (f := f) hb (by omega : 0 + n2 ≤ l.length)
  rw [Nat.zero_mul, List.drop_zero] at this
  exact this
theorem opB_copy0 {c : Call} {x y : Operand} {t t' e : TypeId} {i : TypeInfo} {s n m o1 off : Nat} {f : Bool} {l r : List α} {t0 : TypeId} (g : o1 + n ≤ l.length ∧ 0 < l.length) (hoff : off = o1 * Enc.sz α) (ho : o.op = .call c) (hc : c.callee = .builtin .copy) (ha : c.args.toList = [x, y]) (ht : c.argTypes.toList = [t, t'])
    (hx : ρ x = .bsl s off n (Enc.sz α) f) (hb : σ.boxes[s]? = some (t0, Enc.cellsL l)) (hu : P.underlying t = some (.slice e)) (hi : P.info? e = some i) (hsz : i.size = Enc.sz α) (hsrc : aCpSrc σ (Enc.sz α) (ρ y) = some (m, Enc.cellsL r)) (hr : r.length = m) :
    aopB P ρ σ o = some (.raw (.int .i64 ((Nat.min m n : Nat) : Int)), { σ with boxes := σ.boxes.set s (t0, Enc.cellsL (cpy l o1 (r.take (Nat.min m n)))) }) := by
  subst hoff
  have hk : Nat.min m n ≤ m := Nat.min_le_left _ _
  have hk2 : Nat.min m n ≤ n := Nat.min_le_right _ _
  have hne : (Enc.cellsL l).isEmpty = false := by
    have h1 := Enc.lenL l
    have h2 := Enc.pos (α := α)
    have h3 : 0 < l.length * Enc.sz α := Nat.mul_pos g.2 h2
    cases hcl : Enc.cellsL l with
    | nil => rw [hcl] at h1; simp at h1; omega
    | cons a b => rfl
  have hfit : o1 * Enc.sz α + Nat.min m n * Enc.sz α ≤ (Enc.cellsL l).length := by
    rw [Enc.lenL, ← Nat.add_mul]
    exact Nat.mul_le_mul_right _ (by omega)
  have hlen : (r.take (Nat.min m n)).length = Nat.min m n := by rw [List.length_take]; omega
  simp only [aopB, ho, hc, ha, ht, aCopy, hu, hx, hi, hb, hsz, hsrc, true_and]
  rw [if_pos ⟨hne, hfit⟩, cpy, hlen, Enc.app, Enc.app, Enc.take, Enc.take, ← Nat.add_mul, Enc.drop]
theorem opB_makeM {t e : TypeId} {x y : Operand} {i : TypeInfo} {z : Value} {k k' : IntKind} {j : Int} {by' : Nat} (zero : α) (g : 0 ≤ j ∧ (by' : Int) * j ≤ 281474976710656) (ho : o.op = .makeSlice t x y) (hx : ρ x = .raw (.int k j)) (hy : ρ y = .raw (.int k' j)) (hu : P.underlying t = some (.slice e)) (hi : P.info? e = some i) (hz : i.zero = some z)
    (hsz : i.size = Enc.sz α) (h1 : (decide (1 < i.size) && z.cells.toList.all (·.oneCell') && decide (z.cells.size = i.size)) = true) (hzero : z.cells.toList.map ofCell = Enc.cells zero) (hby : i.bytes = by' ∧ 0 < by') :
    aopB P ρ σ o = some (.bsl σ.boxes.length 0 j.toNat (Enc.sz α) true, { σ with boxes := σ.boxes ++ [(e, Enc.cellsL (List.replicate j.toNat zero))] }) := by
  simp only [Bool.and_eq_true, decide_eq_true_eq] at h1
  obtain ⟨⟨h1, h2⟩, h3⟩ := h1
  obtain ⟨rfl, hp⟩ := hby
  have hj : j ≤ 9223372036854775807 := by
    have h5 : j ≤ (i.bytes : Int) * j := by
      have h6 : (1 : Int) * j ≤ (i.bytes : Int) * j := Int.mul_le_mul_of_nonneg_right (by omega) g.1
      omega
    omega
  have hflat : ∀ n : Nat, ((List.replicate n z.cells.toList).flatten).map ofCell = Enc.cellsL (List.replicate n zero) := by
    intro n
    induction n with
    | zero => simp [Enc.nil]
    | succ n ih => rw [List.replicate_succ, List.flatten_cons, List.map_append, ih, hzero, List.replicate_succ, Enc.cons]
  simp only [aopB, ho, aMake, aMakeM, hx, hy, hu, hi, hz]
  rw [if_neg (fun h => by omega)]
  simp only
  rw [if_pos ⟨trivial, g.1, hj, g.2, h2, h3⟩, hflat, hsz]
end
theorem w_regAny {IT : IterP} {P : Program} {W : Owed} {k0 : Nat} {id : Nat} {ops : Array Oper} {Q : AQ} {S : List AV} {σ : St} (S1 : List AV) (σ1 : St) (h : aany IT P W ops (fun S σ => S = S1 ∧ σ = σ1) ops.size (Array.replicate ops.size false) S σ) (hrest : Q .normal S1 σ1) : awp IT P W k0 (.region id ops true) Q S σ :=
  .inr (.inr (.inl (aany_mono (fun S σ hw => by obtain ⟨rfl, rfl⟩ := hw; exact hrest) _ _ _ _ h)))
end Go.Ab
set_option linter.unusedSimpArgs false
set_option linter.unusedVariables false
namespace Go.Ab
open Go Go.RowKit Go.Fwd Go.Proofs
def F_write (fuel : Nat) (l : (List Ev)) : Option ((List UInt8) × Int) :=
  (bindE (F_check fuel l) (fun x1 => (bif (x1.2 != 0) then (some (([] : List UInt8), x1.2)) else (cutE (τ := (List (List UInt8))) (chk ((List.length l : Int) < 9223372036854775807) (cutE (rangeE (β := (List (List UInt8))) (fun s1 w1 => (chk (0 ≤ (0 : Int) ∧ (0 : Int) < (List.length w1 : Int)) (letE (ix w1 (0 : Int)) (fun x2 => (bif (x2.k == 1) then (bindE (F_bytes fuel w1) (fun x3 => (bindE (F_quote fuel x3) (fun x4 => (chk ((List.length s1 + List.length [x4]) * 16 ≤ 140737488355328) (some (Sum.inl ((s1 ++ [x4]))))))))) else (bif (x2.k == 2) then (chk (-9223372036854775808 ≤ (List.length w1 : Int) ∧ (List.length w1 : Int) < 9223372036854775808) (letE (Lib.itoa (List.length w1 : Int)) (fun x5 => (chk (List.length ([116] : List UInt8) + List.length x5 ≤ 9223372036854775807) (chk ((List.length s1 + List.length [(([116] : List UInt8) ++ x5)]) * 16 ≤ 140737488355328) (some (Sum.inl ((s1 ++ [(([116] : List UInt8) ++ x5)]))))))))) else (chk ((List.length s1 + List.length [([101, 111, 102] : List UInt8)]) * 16 ≤ 140737488355328) (some (Sum.inl ((s1 ++ [([101, 111, 102] : List UInt8)]))))))))))) (runs l) (([] : List (List UInt8)))) (fun s1 => (some (Sum.inl (s1)))))) (fun j1 => (chk ((List.length j1 : Int) ≤ 140737488355328 ∧ (List.length (Lib.join j1 ([32] : List UInt8)) : Int) ≤ 140737488355328) (letE (Lib.join j1 ([32] : List UInt8)) (fun x6 => (some (x6, 0))))))))))
theorem ent12 : Ent Tryz.prog 12 := enters_of Tryz.func12 (by kernel_rfl) rfl
set_option maxRecDepth 100000 in
set_option maxHeartbeats 4000000 in
theorem write_sh (fuel : Nat) (l : (List Ev)) (r : ((List UInt8) × Int)) (h : F_write fuel l = some r) : Pure (ITP Tryz.prog) Tryz.prog 12 [.list (List.length (l : List Ev)) (Enc.cellsL (l : List Ev)) .none] (.tup [.raw (.string (bs r.1)), .raw (.int .i64 r.2)]) := by
 obtain ⟨d, hd⟩ : ∃ d, Tryz.f12.body = some d := ⟨_, rfl⟩
 refine pure_of mix Tryz.func12 hd ent12 ?_
 cases hd
 unfold F_write at h
 refine w_start (by dsimp only [abeginS, Tryz.f12, List.length_cons, List.length_nil, Nat.zero_add, Nat.reduceAdd, Nat.reduceSub, List.replicate, List.cons_append, List.nil_append]) (by dsimp only [St.empty]) ?_
 refine w_seq (w_region ?_)
 refine w_o (a := .s ([] : List UInt8)) ?_
 refine w_o (a := .i 0) ?_
 refine w_seq ?_
 refine w_seq (w_region ?_)
 refine w_mv ?_
 obtain ⟨x1, hx1, h⟩ := bindE_e h
 refine w_callc (args' := [.list (List.length (l : List Ev)) (Enc.cellsL (l : List Ev)) .none]) (r := .tup [.i x1.1, .i x1.2]) (check_sh fuel l x1 hx1) rfl rfl (stripL_cons (strip_l (Enc.cloL _)) rfl) (okTrimL_cons (okTrim_l (Enc.cloL _)) rfl) (by dsimp only [aput, List.set]) ?_
 refine w_mv ?_
 refine w_ex ?_
 refine w_ex ?_
 refine w_mv ?_
 refine w_mv ?_
 refine w_seq (w_region ?_)
 refine w_mv ?_
 refine w_o (a := .b (x1.2 != 0)) ?_
 refine bif_e h (fun hc1 h => ?_) (fun hc1 h => ?_)
 refine w_condT hc1 rfl ?_
 refine w_seq (w_region ?_)
 refine w_mv ?_
 refine w_o (a := .s ([] : List UInt8)) ?_
 refine w_mv ?_
 exact end_pureF (fun (r : ((List UInt8) × Int)) => (.tup [.s r.1, .i r.2] : AV)) h (a := .tup [.s ([] : List UInt8), .i x1.2]) rfl (show okTrimL _ _ = true from (by kernel_rfl)) (show AV.tup (stripL _) = _ from congrArg AV.tup (stripL_cons rfl (stripL_cons rfl rfl)))
 refine w_condF hc1 rfl ?_
 refine w_seq (w_region ?_)
 refine w_om (a := .ptr 0 0) (σ'' := ⟨[(33, [.list (List.length (([] : List (List UInt8)) : List (List UInt8))) (Enc.cellsL (([] : List (List UInt8)) : List (List UInt8))) .full])], [], [], 0, false⟩) ?_
 refine w_cutF h [0, 1, 2, 3, 4, 5, 7, 8, 9, 10, 11, 12, 13, 14, 15, 16, 17, 18, 19, 20, 21, 22, 23, 24, 25, 26, 27, 28, 29, 30, 31, 32, 33, 34, 35, 36, 37, 38, 39, 40, 41, 42, 43, 44, 45] (fun j1 => []) (fun j1 => (ownSt [(33, [(ownAV (List.length (j1 : List (List UInt8))) (Enc.cellsL (j1 : List (List UInt8))))])] 9 (List.length (j1 : List (List UInt8))) 1)) ?_ ?_
 intro or1 h hr1
 refine w_seq (w_region ?_)
 refine w_mv ?_
 refine w_snd (r := .clos 75 [.ptr 1 0]) (σ' := ⟨[(33, [.list (List.length (([] : List (List UInt8)) : List (List UInt8))) (Enc.cellsL (([] : List (List UInt8)) : List (List UInt8))) .full]), (22, [.list (List.length (l : List Ev)) (Enc.cellsL (l : List Ev)) .none])], [], [], 0, false⟩) (stretches_snd l 1 _ rfl) rfl rfl ⟨rfl, rfl⟩ (by dsimp only [aput, List.set]) ?_
 refine w_block ?_
 obtain ⟨g1, h⟩ := chk_e h
 refine w_rangeB h rowE (fun s1 => (ownSt [(33, [(ownAV (List.length (s1 : List (List UInt8))) (Enc.cellsL (s1 : List (List UInt8))))])] 9 (List.length (s1 : List (List UInt8))) 1)) (S' := [.list (List.length (l : List Ev)) (Enc.cellsL (l : List Ev)) .none, .raw undef, .s ([] : List UInt8), .i 0, .i x1.1, .i x1.2, .ptr 0 0, .raw undef, .tup [.i x1.1, .i x1.2], .list (List.length (l : List Ev)) (Enc.cellsL (l : List Ev)) .none, .tup [.i x1.1, .i x1.2], .i x1.1, .i x1.2, .i x1.2, .b (x1.2 != 0), .raw undef, .list (List.length (l : List Ev)) (Enc.cellsL (l : List Ev)) .none, .top, .raw undef, .raw undef, .raw undef, .raw undef, .raw undef, .raw undef, .raw undef, .raw undef, .raw undef, .raw undef, .raw undef, .raw undef, .raw undef, .raw undef, .raw undef, .raw undef, .raw undef, .raw undef, .raw undef, .raw undef, .raw undef, .raw undef, .raw undef, .raw undef, .raw undef, .raw undef, .raw undef, .raw undef]) 1 [true, true, true, true, true, true, true, true, true, true, true, true, true, true, true, true, true, false, true, true, true, true, true, true, true, true, true, true, true, true, true, true, true, true, true, true, true, true, true, true, true, true, true, true, true, true] (strb_it l g1) ent75 rfl rfl (List.cons_ne_nil _ _) rfl (Nat.le_of_ble_eq_true rfl) rfl (stripL_cons (strip_l (Enc.cloL _)) rfl) (okTrimL_cons (okTrim_l (Enc.cloL _)) rfl) (okSt_of (okB_cons (okTrimL_cons (okTrim_l (Enc.cloL _)) rfl) rfl)) (by kernel_rfl) (by exact (okTrimL_cons (okTrim_l (Enc.cloL _)) (okTrimL_cons rfl (okTrimL_cons rfl (okTrimL_cons rfl (okTrimL_cons rfl (okTrimL_cons rfl (okTrimL_cons (by decide) (okTrimL_cons rfl (okTrimL_cons (show okTrimL _ _ = true from (by kernel_rfl)) (okTrimL_cons (okTrim_l (Enc.cloL _)) (okTrimL_cons (show okTrimL _ _ = true from (by kernel_rfl)) (okTrimL_cons rfl (okTrimL_cons rfl (okTrimL_cons rfl (okTrimL_cons rfl (okTrimL_cons rfl (okTrimL_cons (okTrim_l (Enc.cloL _)) (by kernel_rfl))))))))))))))))))) (fun _ => rfl) rfl rfl ?_ ?_
 intro s1 w1 p1 h
 refine w_start (by dsimp only [aputs, List.zip, List.zipWith, List.foldl, List.set, Array.toList, rowE]) rfl ?_
 refine w_region (k0 := 0) (id := 6) ?_
 refine w_mv ?_
 refine w_block ?_
 refine w_seq (w_region ?_)
 refine w_mv ?_
 obtain ⟨g2, h⟩ := chk_e h
 obtain ⟨x2, hx2, h⟩ := letE_e h
 refine w_o (a := .iptr (Enc.cells x2 ++ Enc.cellsL (List.drop (Int.toNat (0 : Int) + 1) w1))) (h := op_q (by rw [← hx2]; exact (q_idx (α := Ev) (l := w1) g2 rfl rfl rfl rfl rfl))) ?_
 refine w_o (a := .iptr (List.drop 0 (Enc.cells x2 ++ Enc.cellsL (List.drop (Int.toNat (0 : Int) + 1) w1)))) ?_
 refine w_o (a := .u x2.k) ?_
 refine w_block ?_
 refine w_seq (w_region ?_)
 refine w_o (a := .b (x2.k == 1)) ?_
 refine w_mv ?_
 refine bif_e h (fun hc2 h => ?_) (fun hc2 h => ?_)
 refine w_condT hc2 rfl ?_
 refine w_draw (k0 := 0) (id := 10) 6 (by kernel_rfl) (by kernel_rfl) ?_
 refine h_o (a := (ownAV (List.length (s1 : List (List UInt8))) (Enc.cellsL (s1 : List (List UInt8))))) ?_
 refine h_mv ?_
 obtain ⟨x3, hx3, h⟩ := bindE_e h
 refine h_call (args' := [.list (List.length (w1 : List Ev)) (Enc.cellsL (w1 : List Ev)) .none]) (r := .list (List.length (x3 : List UInt8)) (Enc.cellsL (x3 : List UInt8)) .none) (bytes_sh fuel w1 x3 hx3) rfl rfl rfl (stripL_cons (strip_l (Enc.cloL _)) rfl) (okTrimL_cons (okTrim_l (Enc.cloL _)) rfl) (by dsimp only [aput, List.set]) ?_
 refine h_o (a := .s x3) (h := q_bstr (l := x3) rfl rfl ⟨rfl, rfl⟩ rfl) ?_
 obtain ⟨x4, hx4, h⟩ := bindE_e h
 refine h_call (args' := [.s x3]) (r := .s x4) (quote_sh fuel x3 x4 hx4) rfl rfl rfl (stripL_cons rfl rfl) (by kernel_rfl) (by dsimp only [aput, List.set]) ?_
 refine h_o (a := .list (List.length ([x4] : List (List UInt8))) (Enc.cellsL ([x4] : List (List UInt8))) .full) (h := q_lit (α := (List UInt8)) (l := [x4]) (cs := Enc.cells (x4 : (List UInt8)) ++ []) rfl (by rw [Enc.cons, Enc.nil])) ?_
 refine h_end ?_
 obtain ⟨g3, h⟩ := chk_e h
 refine w_opm (a := (ownAV (List.length ((s1 ++ [x4]) : List (List UInt8))) (Enc.cellsL ((s1 ++ [x4]) : List (List UInt8))))) (σ'' := (ownSt [(33, [(ownAV (List.length (s1 : List (List UInt8))) (Enc.cellsL (s1 : List (List UInt8))))])] 9 (List.length ((s1 ++ [x4]) : List (List UInt8))) 1)) rfl rfl rfl (op_append rfl rfl rfl rfl (append_ownE (α := (List UInt8)) (bs := [(33, [(ownAV (List.length (s1 : List (List UInt8))) (Enc.cellsL (s1 : List (List UInt8))))])]) (a := s1) (b := [x4]) g3 rfl rfl rfl rfl rfl ⟨rfl, by decide⟩)) (by dsimp only [aput, List.set]) rfl ?_
 refine w_om (σ'' := (ownSt [(33, [(ownAV (List.length ((s1 ++ [x4]) : List (List UInt8))) (Enc.cellsL ((s1 ++ [x4]) : List (List UInt8))))])] 9 (List.length ((s1 ++ [x4]) : List (List UInt8))) 1)) (h := op_storeO rfl rfl rfl rfl rfl (Nat.le_of_ble_eq_true rfl)) ?_
 exact range_next (p := p1) ((s1 ++ [x4])) h (okSt_of (okB_cons (okTrimL_cons (okTrim_own (Enc.cloL _)) rfl) rfl)) (by kernel_rfl)
 refine w_condF hc2 rfl ?_
 refine w_seq (w_region ?_)
 refine w_o (a := .b (x2.k == 2)) ?_
 refine w_mv ?_
 refine bif_e h (fun hc3 h => ?_) (fun hc3 h => ?_)
 refine w_condT hc3 rfl ?_
 refine w_draw (k0 := 0) (id := 12) 6 (by kernel_rfl) (by kernel_rfl) ?_
 refine h_o (a := (ownAV (List.length (s1 : List (List UInt8))) (Enc.cellsL (s1 : List (List UInt8))))) ?_
 refine h_mv ?_
 refine h_o (a := .i (List.length w1 : Int)) ?_
 obtain ⟨g4, h⟩ := chk_e h
 obtain ⟨x5, hx5, h⟩ := letE_e h
 refine h_call (args' := [.i (List.length w1 : Int)]) (r := .s x5) (by rw [← hx5]; exact (itoa_pure (List.length w1 : Int) g4)) rfl rfl rfl (stripL_cons rfl rfl) (by kernel_rfl) (by dsimp only [aput, List.set]) ?_
 obtain ⟨g5, h⟩ := chk_e h
 refine h_o (a := .s (([116] : List UInt8) ++ x5)) (h := q_stradd g5 rfl rfl rfl) ?_
 refine h_o (a := .list (List.length ([(([116] : List UInt8) ++ x5)] : List (List UInt8))) (Enc.cellsL ([(([116] : List UInt8) ++ x5)] : List (List UInt8))) .full) (h := q_lit (α := (List UInt8)) (l := [(([116] : List UInt8) ++ x5)]) (cs := Enc.cells ((([116] : List UInt8) ++ x5) : (List UInt8)) ++ []) rfl (by rw [Enc.cons, Enc.nil])) ?_
 refine h_end ?_
 obtain ⟨g6, h⟩ := chk_e h
 refine w_opm (a := (ownAV (List.length ((s1 ++ [(([116] : List UInt8) ++ x5)]) : List (List UInt8))) (Enc.cellsL ((s1 ++ [(([116] : List UInt8) ++ x5)]) : List (List UInt8))))) (σ'' := (ownSt [(33, [(ownAV (List.length (s1 : List (List UInt8))) (Enc.cellsL (s1 : List (List UInt8))))])] 9 (List.length ((s1 ++ [(([116] : List UInt8) ++ x5)]) : List (List UInt8))) 1)) rfl rfl rfl (op_append rfl rfl rfl rfl (append_ownE (α := (List UInt8)) (bs := [(33, [(ownAV (List.length (s1 : List (List UInt8))) (Enc.cellsL (s1 : List (List UInt8))))])]) (a := s1) (b := [(([116] : List UInt8) ++ x5)]) g6 rfl rfl rfl rfl rfl ⟨rfl, by decide⟩)) (by dsimp only [aput, List.set]) rfl ?_
 refine w_om (σ'' := (ownSt [(33, [(ownAV (List.length ((s1 ++ [(([116] : List UInt8) ++ x5)]) : List (List UInt8))) (Enc.cellsL ((s1 ++ [(([116] : List UInt8) ++ x5)]) : List (List UInt8))))])] 9 (List.length ((s1 ++ [(([116] : List UInt8) ++ x5)]) : List (List UInt8))) 1)) (h := op_storeO rfl rfl rfl rfl rfl (Nat.le_of_ble_eq_true rfl)) ?_
 exact range_next (p := p1) ((s1 ++ [(([116] : List UInt8) ++ x5)])) h (okSt_of (okB_cons (okTrimL_cons (okTrim_own (Enc.cloL _)) rfl) rfl)) (by kernel_rfl)
 refine w_condF hc3 rfl ?_
 refine w_region (k0 := 0) (id := 8) ?_
 refine w_o (a := (ownAV (List.length (s1 : List (List UInt8))) (Enc.cellsL (s1 : List (List UInt8))))) ?_
 refine w_o (a := .list (List.length ([([101, 111, 102] : List UInt8)] : List (List UInt8))) (Enc.cellsL ([([101, 111, 102] : List UInt8)] : List (List UInt8))) .full) (h := op_q (q_lit (α := (List UInt8)) (l := [([101, 111, 102] : List UInt8)]) (cs := Enc.cells (([101, 111, 102] : List UInt8) : (List UInt8)) ++ []) rfl (by rw [Enc.cons, Enc.nil]))) ?_
 obtain ⟨g7, h⟩ := chk_e h
 refine w_opm (a := (ownAV (List.length ((s1 ++ [([101, 111, 102] : List UInt8)]) : List (List UInt8))) (Enc.cellsL ((s1 ++ [([101, 111, 102] : List UInt8)]) : List (List UInt8))))) (σ'' := (ownSt [(33, [(ownAV (List.length (s1 : List (List UInt8))) (Enc.cellsL (s1 : List (List UInt8))))])] 9 (List.length ((s1 ++ [([101, 111, 102] : List UInt8)]) : List (List UInt8))) 1)) rfl rfl rfl (op_append rfl rfl rfl rfl (append_ownE (α := (List UInt8)) (bs := [(33, [(ownAV (List.length (s1 : List (List UInt8))) (Enc.cellsL (s1 : List (List UInt8))))])]) (a := s1) (b := [([101, 111, 102] : List UInt8)]) g7 rfl rfl rfl rfl rfl ⟨rfl, by decide⟩)) (by dsimp only [aput, List.set]) rfl ?_
 refine w_om (σ'' := (ownSt [(33, [(ownAV (List.length ((s1 ++ [([101, 111, 102] : List UInt8)]) : List (List UInt8))) (Enc.cellsL ((s1 ++ [([101, 111, 102] : List UInt8)]) : List (List UInt8))))])] 9 (List.length ((s1 ++ [([101, 111, 102] : List UInt8)]) : List (List UInt8))) 1)) (h := op_storeO rfl rfl rfl rfl rfl (Nat.le_of_ble_eq_true rfl)) ?_
 exact range_next (p := p1) ((s1 ++ [([101, 111, 102] : List UInt8)])) h (okSt_of (okB_cons (okTrimL_cons (okTrim_own (Enc.cloL _)) rfl) rfl)) (by kernel_rfl)
 intro s1 h
 refine cut_done (o := or1) (s1) h ?_
 exact wm_of (bl 46 64) (by kernel_rfl) (by kernel_rfl)
 intro j1 h
 refine w_start (by dsimp only [setAll, topAll, List.foldl, List.set]) rfl ?_
 refine w_seq (w_region ?_)
 refine w_o (a := (ownAV (List.length (j1 : List (List UInt8))) (Enc.cellsL (j1 : List (List UInt8))))) ?_
 obtain ⟨g8, h⟩ := chk_e h
 obtain ⟨x6, hx6, h⟩ := letE_e h
 refine w_callc (args' := [.list (List.length (j1 : List (List UInt8))) (Enc.cellsL (j1 : List (List UInt8))) .none, .s ([32] : List UInt8)]) (r := .s x6) (by rw [← hx6]; exact (join_pure j1 ([32] : List UInt8) g8)) rfl rfl (stripL_cons (strip_o (Enc.cloL _) Enc.z) (stripL_cons rfl rfl)) (okTrimL_cons (okTrim_own (Enc.cloL _)) (by kernel_rfl)) (by dsimp only [aput, List.set]) ?_
 refine w_mv ?_
 refine w_o (a := .i 0) ?_
 exact end_pureF (fun (r : ((List UInt8) × Int)) => (.tup [.s r.1, .i r.2] : AV)) h (a := .tup [.s x6, .i 0]) rfl (show okTrimL _ _ = true from (by kernel_rfl)) (show AV.tup (stripL _) = _ from congrArg AV.tup (stripL_cons rfl (stripL_cons rfl rfl)))
end Go.Ab

