/-
  cmp, most, bytes of sets: by functions of Lean.
-/
import Derived.Test.YtaocggpaiafeeaaZrxEn
set_option linter.unusedSimpArgs false
set_option linter.unusedVariables false
namespace Go.Ab
open Go Go.RowKit Go.Fwd Go.Proofs

def F_isNaN8 (x : Int) : Option Bool :=
  (some (x != x))
theorem ent58 : Ent Try.prog 58 := enters_of Try.func58 (by kernel_rfl) rfl
set_option maxRecDepth 100000 in
set_option maxHeartbeats 4000000 in
theorem isNaN8_sh (x : Int) (r : Bool) (h : F_isNaN8 x = some r) : Pure (ITP Try.prog) Try.prog 58 [.raw (.int .u8 x)] (.raw (.bool r)) := by
  obtain ⟨d, hd⟩ : ∃ d, Try.f58.body = some d := ⟨_, rfl⟩
  refine pure_of mix Try.func58 hd ent58 ?_
  cases hd
  unfold F_isNaN8 at h
  refine w_start (by dsimp only [abeginS, Try.f58, List.length_cons, List.length_nil, Nat.zero_add, Nat.reduceAdd, Nat.reduceSub, List.replicate, List.cons_append, List.nil_append]) (by dsimp only [St.empty]) ?_
  refine w_seq (w_region ?_)
  refine w_op (a := .raw (.bool false)) rfl rfl rfl rfl (by dsimp only [aput, List.set]) ?_
  refine w_seq (w_region ?_)
  refine w_op (a := .raw (.int .u8 x)) rfl rfl rfl rfl (by dsimp only [aput, List.set]) ?_
  refine w_op (a := .raw (.int .u8 x)) rfl rfl rfl rfl (by dsimp only [aput, List.set]) ?_
  refine w_op (a := .raw (.bool (x != x))) rfl rfl rfl rfl (by dsimp only [aput, List.set]) ?_
  refine w_op (a := .raw (.bool (x != x))) rfl rfl rfl rfl (by dsimp only [aput, List.set]) ?_
  exact end_pureF (fun (r : Bool) => (.raw (.bool r) : AV)) h (a := .raw (.bool (x != x))) rfl rfl rfl
def F_isNaN (x : Int) : Option Bool :=
  (some (x != x))
theorem ent63 : Ent Try.prog 63 := enters_of Try.func63 (by kernel_rfl) rfl
set_option maxRecDepth 100000 in
set_option maxHeartbeats 4000000 in
theorem isNaN_sh (x : Int) (r : Bool) (h : F_isNaN x = some r) : Pure (ITP Try.prog) Try.prog 63 [.raw (.int .i64 x)] (.raw (.bool r)) := by
  obtain ⟨d, hd⟩ : ∃ d, Try.f63.body = some d := ⟨_, rfl⟩
  refine pure_of mix Try.func63 hd ent63 ?_
  cases hd
  unfold F_isNaN at h
  refine w_start (by dsimp only [abeginS, Try.f63, List.length_cons, List.length_nil, Nat.zero_add, Nat.reduceAdd, Nat.reduceSub, List.replicate, List.cons_append, List.nil_append]) (by dsimp only [St.empty]) ?_
  refine w_seq (w_region ?_)
  refine w_op (a := .raw (.bool false)) rfl rfl rfl rfl (by dsimp only [aput, List.set]) ?_
  refine w_seq (w_region ?_)
  refine w_op (a := .raw (.int .i64 x)) rfl rfl rfl rfl (by dsimp only [aput, List.set]) ?_
  refine w_op (a := .raw (.int .i64 x)) rfl rfl rfl rfl (by dsimp only [aput, List.set]) ?_
  refine w_op (a := .raw (.bool (x != x))) rfl rfl rfl rfl (by dsimp only [aput, List.set]) ?_
  refine w_op (a := .raw (.bool (x != x))) rfl rfl rfl rfl (by dsimp only [aput, List.set]) ?_
  exact end_pureF (fun (r : Bool) => (.raw (.bool r) : AV)) h (a := .raw (.bool (x != x))) rfl rfl rfl
def F_cmp8 (x : Int) (y : Int) : Option Int :=
  (bindE (F_isNaN8 x) (fun x1 => (bindE (F_isNaN8 y) (fun x2 => (bif x1 then (bif x2 then (some 0) else (some (-1))) else (bif x2 then (some 1) else (bif (decide (x < y)) then (some (-1)) else (bif (decide (x > y)) then (some 1) else (some 0)))))))))
theorem ent50 : Ent Try.prog 50 := enters_of Try.func50 (by kernel_rfl) rfl
set_option maxRecDepth 100000 in
set_option maxHeartbeats 4000000 in
theorem cmp8_sh (x : Int) (y : Int) (r : Int) (h : F_cmp8 x y = some r) : Pure (ITP Try.prog) Try.prog 50 [.raw (.int .u8 x), .raw (.int .u8 y)] (.raw (.int .i64 r)) := by
  obtain ⟨d, hd⟩ : ∃ d, Try.f50.body = some d := ⟨_, rfl⟩
  refine pure_of mix Try.func50 hd ent50 ?_
  cases hd
  unfold F_cmp8 at h
  refine w_start (by dsimp only [abeginS, Try.f50, List.length_cons, List.length_nil, Nat.zero_add, Nat.reduceAdd, Nat.reduceSub, List.replicate, List.cons_append, List.nil_append]) (by dsimp only [St.empty]) ?_
  refine w_seq (w_region ?_)
  refine w_op (a := .raw (.int .i64 0)) rfl rfl rfl rfl (by dsimp only [aput, List.set]) ?_
  refine w_seq (w_region ?_)
  refine w_op (a := .raw (.int .u8 x)) rfl rfl rfl rfl (by dsimp only [aput, List.set]) ?_
  obtain ⟨x1, hx1, h⟩ := bindE_e h
  refine w_callc (args' := [.raw (.int .u8 x)]) (r := .raw (.bool x1)) (isNaN8_sh x x1 hx1) rfl rfl (stripL_cons rfl rfl) (okTrimL_cons rfl rfl) (by dsimp only [aput, List.set]) ?_
  refine w_op (a := .raw (.bool x1)) rfl rfl rfl rfl (by dsimp only [aput, List.set]) ?_
  refine w_seq (w_region ?_)
  refine w_op (a := .raw (.int .u8 y)) rfl rfl rfl rfl (by dsimp only [aput, List.set]) ?_
  obtain ⟨x2, hx2, h⟩ := bindE_e h
  refine w_callc (args' := [.raw (.int .u8 y)]) (r := .raw (.bool x2)) (isNaN8_sh y x2 hx2) rfl rfl (stripL_cons rfl rfl) (okTrimL_cons rfl rfl) (by dsimp only [aput, List.set]) ?_
  refine w_op (a := .raw (.bool x2)) rfl rfl rfl rfl (by dsimp only [aput, List.set]) ?_
  refine w_seq ?_
  refine w_seq (w_region ?_)
  refine w_op (a := .raw (.bool x1)) rfl rfl rfl rfl (by dsimp only [aput, List.set]) ?_
  refine bif_e h (fun hc1 h => ?_) (fun hc1 h => ?_)
  ·
    refine w_condT hc1 rfl ?_
    refine w_seq ?_
    refine w_seq (w_region ?_)
    refine w_op (a := .raw (.bool x2)) rfl rfl rfl rfl (by dsimp only [aput, List.set]) ?_
    refine bif_e h (fun hc2 h => ?_) (fun hc2 h => ?_)
    ·
      refine w_condT hc2 rfl ?_
      refine w_seq (w_region ?_)
      refine w_op (a := .raw (.int .i64 0)) rfl rfl rfl rfl (by dsimp only [aput, List.set]) ?_
      exact end_pureF (fun (r : Int) => (.raw (.int .i64 r) : AV)) h (a := .raw (.int .i64 0)) rfl rfl rfl
    ·
      refine w_condF hc2 rfl ?_
      refine w_seq (w_region ?_)
      refine w_op (a := .raw (.int .i64 (-1))) rfl rfl rfl rfl (by dsimp only [aput, List.set]) ?_
      exact end_pureF (fun (r : Int) => (.raw (.int .i64 r) : AV)) h (a := .raw (.int .i64 (-1))) rfl rfl rfl
  ·
    refine w_condF hc1 rfl ?_
    refine w_seq ?_
    refine w_seq (w_region ?_)
    refine w_op (a := .raw (.bool x2)) rfl rfl rfl rfl (by dsimp only [aput, List.set]) ?_
    refine bif_e h (fun hc3 h => ?_) (fun hc3 h => ?_)
    ·
      refine w_condT hc3 rfl ?_
      refine w_seq (w_region ?_)
      refine w_op (a := .raw (.int .i64 1)) rfl rfl rfl rfl (by dsimp only [aput, List.set]) ?_
      exact end_pureF (fun (r : Int) => (.raw (.int .i64 r) : AV)) h (a := .raw (.int .i64 1)) rfl rfl rfl
    ·
      refine w_condF hc3 rfl ?_
      refine w_seq ?_
      refine w_seq (w_region ?_)
      refine w_op (a := .raw (.int .u8 x)) rfl rfl rfl rfl (by dsimp only [aput, List.set]) ?_
      refine w_op (a := .raw (.int .u8 y)) rfl rfl rfl rfl (by dsimp only [aput, List.set]) ?_
      refine w_op (a := .raw (.bool (decide (x < y)))) rfl rfl rfl rfl (by dsimp only [aput, List.set]) ?_
      refine bif_e h (fun hc4 h => ?_) (fun hc4 h => ?_)
      ·
        refine w_condT hc4 rfl ?_
        refine w_seq (w_region ?_)
        refine w_op (a := .raw (.int .i64 (-1))) rfl rfl rfl rfl (by dsimp only [aput, List.set]) ?_
        exact end_pureF (fun (r : Int) => (.raw (.int .i64 r) : AV)) h (a := .raw (.int .i64 (-1))) rfl rfl rfl
      ·
        refine w_condF hc4 rfl ?_
        refine w_seq ?_
        refine w_seq (w_region ?_)
        refine w_op (a := .raw (.int .u8 x)) rfl rfl rfl rfl (by dsimp only [aput, List.set]) ?_
        refine w_op (a := .raw (.int .u8 y)) rfl rfl rfl rfl (by dsimp only [aput, List.set]) ?_
        refine w_op (a := .raw (.bool (decide (x > y)))) rfl rfl rfl rfl (by dsimp only [aput, List.set]) ?_
        refine bif_e h (fun hc5 h => ?_) (fun hc5 h => ?_)
        ·
          refine w_condT hc5 rfl ?_
          refine w_seq (w_region ?_)
          refine w_op (a := .raw (.int .i64 1)) rfl rfl rfl rfl (by dsimp only [aput, List.set]) ?_
          exact end_pureF (fun (r : Int) => (.raw (.int .i64 r) : AV)) h (a := .raw (.int .i64 1)) rfl rfl rfl
        ·
          refine w_condF hc5 rfl ?_
          refine w_seq (w_region ?_)
          refine w_op (a := .raw (.int .i64 0)) rfl rfl rfl rfl (by dsimp only [aput, List.set]) ?_
          exact end_pureF (fun (r : Int) => (.raw (.int .i64 r) : AV)) h (a := .raw (.int .i64 0)) rfl rfl rfl
def F_cmp64 (x : Int) (y : Int) : Option Int :=
  (bindE (F_isNaN x) (fun x1 => (bindE (F_isNaN y) (fun x2 => (bif x1 then (bif x2 then (some 0) else (some (-1))) else (bif x2 then (some 1) else (bif (decide (x < y)) then (some (-1)) else (bif (decide (x > y)) then (some 1) else (some 0)))))))))
theorem ent53 : Ent Try.prog 53 := enters_of Try.func53 (by kernel_rfl) rfl
set_option maxRecDepth 100000 in
set_option maxHeartbeats 4000000 in
theorem cmp64_sh (x : Int) (y : Int) (r : Int) (h : F_cmp64 x y = some r) : Pure (ITP Try.prog) Try.prog 53 [.raw (.int .i64 x), .raw (.int .i64 y)] (.raw (.int .i64 r)) := by
  obtain ⟨d, hd⟩ : ∃ d, Try.f53.body = some d := ⟨_, rfl⟩
  refine pure_of mix Try.func53 hd ent53 ?_
  cases hd
  unfold F_cmp64 at h
  refine w_start (by dsimp only [abeginS, Try.f53, List.length_cons, List.length_nil, Nat.zero_add, Nat.reduceAdd, Nat.reduceSub, List.replicate, List.cons_append, List.nil_append]) (by dsimp only [St.empty]) ?_
  refine w_seq (w_region ?_)
  refine w_op (a := .raw (.int .i64 0)) rfl rfl rfl rfl (by dsimp only [aput, List.set]) ?_
  refine w_seq (w_region ?_)
  refine w_op (a := .raw (.int .i64 x)) rfl rfl rfl rfl (by dsimp only [aput, List.set]) ?_
  obtain ⟨x1, hx1, h⟩ := bindE_e h
  refine w_callc (args' := [.raw (.int .i64 x)]) (r := .raw (.bool x1)) (isNaN_sh x x1 hx1) rfl rfl (stripL_cons rfl rfl) (okTrimL_cons rfl rfl) (by dsimp only [aput, List.set]) ?_
  refine w_op (a := .raw (.bool x1)) rfl rfl rfl rfl (by dsimp only [aput, List.set]) ?_
  refine w_seq (w_region ?_)
  refine w_op (a := .raw (.int .i64 y)) rfl rfl rfl rfl (by dsimp only [aput, List.set]) ?_
  obtain ⟨x2, hx2, h⟩ := bindE_e h
  refine w_callc (args' := [.raw (.int .i64 y)]) (r := .raw (.bool x2)) (isNaN_sh y x2 hx2) rfl rfl (stripL_cons rfl rfl) (okTrimL_cons rfl rfl) (by dsimp only [aput, List.set]) ?_
  refine w_op (a := .raw (.bool x2)) rfl rfl rfl rfl (by dsimp only [aput, List.set]) ?_
  refine w_seq ?_
  refine w_seq (w_region ?_)
  refine w_op (a := .raw (.bool x1)) rfl rfl rfl rfl (by dsimp only [aput, List.set]) ?_
  refine bif_e h (fun hc1 h => ?_) (fun hc1 h => ?_)
  ·
    refine w_condT hc1 rfl ?_
    refine w_seq ?_
    refine w_seq (w_region ?_)
    refine w_op (a := .raw (.bool x2)) rfl rfl rfl rfl (by dsimp only [aput, List.set]) ?_
    refine bif_e h (fun hc2 h => ?_) (fun hc2 h => ?_)
    ·
      refine w_condT hc2 rfl ?_
      refine w_seq (w_region ?_)
      refine w_op (a := .raw (.int .i64 0)) rfl rfl rfl rfl (by dsimp only [aput, List.set]) ?_
      exact end_pureF (fun (r : Int) => (.raw (.int .i64 r) : AV)) h (a := .raw (.int .i64 0)) rfl rfl rfl
    ·
      refine w_condF hc2 rfl ?_
      refine w_seq (w_region ?_)
      refine w_op (a := .raw (.int .i64 (-1))) rfl rfl rfl rfl (by dsimp only [aput, List.set]) ?_
      exact end_pureF (fun (r : Int) => (.raw (.int .i64 r) : AV)) h (a := .raw (.int .i64 (-1))) rfl rfl rfl
  ·
    refine w_condF hc1 rfl ?_
    refine w_seq ?_
    refine w_seq (w_region ?_)
    refine w_op (a := .raw (.bool x2)) rfl rfl rfl rfl (by dsimp only [aput, List.set]) ?_
    refine bif_e h (fun hc3 h => ?_) (fun hc3 h => ?_)
    ·
      refine w_condT hc3 rfl ?_
      refine w_seq (w_region ?_)
      refine w_op (a := .raw (.int .i64 1)) rfl rfl rfl rfl (by dsimp only [aput, List.set]) ?_
      exact end_pureF (fun (r : Int) => (.raw (.int .i64 r) : AV)) h (a := .raw (.int .i64 1)) rfl rfl rfl
    ·
      refine w_condF hc3 rfl ?_
      refine w_seq ?_
      refine w_seq (w_region ?_)
      refine w_op (a := .raw (.int .i64 x)) rfl rfl rfl rfl (by dsimp only [aput, List.set]) ?_
      refine w_op (a := .raw (.int .i64 y)) rfl rfl rfl rfl (by dsimp only [aput, List.set]) ?_
      refine w_op (a := .raw (.bool (decide (x < y)))) rfl rfl rfl rfl (by dsimp only [aput, List.set]) ?_
      refine bif_e h (fun hc4 h => ?_) (fun hc4 h => ?_)
      ·
        refine w_condT hc4 rfl ?_
        refine w_seq (w_region ?_)
        refine w_op (a := .raw (.int .i64 (-1))) rfl rfl rfl rfl (by dsimp only [aput, List.set]) ?_
        exact end_pureF (fun (r : Int) => (.raw (.int .i64 r) : AV)) h (a := .raw (.int .i64 (-1))) rfl rfl rfl
      ·
        refine w_condF hc4 rfl ?_
        refine w_seq ?_
        refine w_seq (w_region ?_)
        refine w_op (a := .raw (.int .i64 x)) rfl rfl rfl rfl (by dsimp only [aput, List.set]) ?_
        refine w_op (a := .raw (.int .i64 y)) rfl rfl rfl rfl (by dsimp only [aput, List.set]) ?_
        refine w_op (a := .raw (.bool (decide (x > y)))) rfl rfl rfl rfl (by dsimp only [aput, List.set]) ?_
        refine bif_e h (fun hc5 h => ?_) (fun hc5 h => ?_)
        ·
          refine w_condT hc5 rfl ?_
          refine w_seq (w_region ?_)
          refine w_op (a := .raw (.int .i64 1)) rfl rfl rfl rfl (by dsimp only [aput, List.set]) ?_
          exact end_pureF (fun (r : Int) => (.raw (.int .i64 r) : AV)) h (a := .raw (.int .i64 1)) rfl rfl rfl
        ·
          refine w_condF hc5 rfl ?_
          refine w_seq (w_region ?_)
          refine w_op (a := .raw (.int .i64 0)) rfl rfl rfl rfl (by dsimp only [aput, List.set]) ?_
          exact end_pureF (fun (r : Int) => (.raw (.int .i64 r) : AV)) h (a := .raw (.int .i64 0)) rfl rfl rfl
def F_most (t : Tr) : Option Int :=
  (bif (t.mx == (-1)) then (some 9223372036854775807) else (some t.mx))
theorem ent54 : Ent Try.prog 54 := enters_of Try.func54 (by kernel_rfl) rfl
set_option maxRecDepth 100000 in
set_option maxHeartbeats 4000000 in
theorem most_sh (t : Tr) (r : Int) (h : F_most t = some r) : Pure (ITP Try.prog) Try.prog 54 [.agg (Enc.cells (t : Tr))] (.raw (.int .i64 r)) := by
  obtain ⟨d, hd⟩ : ∃ d, Try.f54.body = some d := ⟨_, rfl⟩
  refine pure_of mix Try.func54 hd ent54 ?_
  cases hd
  unfold F_most at h
  refine w_start (by dsimp only [abeginS, Try.f54, List.length_cons, List.length_nil, Nat.zero_add, Nat.reduceAdd, Nat.reduceSub, List.replicate, List.cons_append, List.nil_append]) (by dsimp only [St.empty]) ?_
  refine w_seq (w_region ?_)
  refine w_opm (a := .ptr 0 0) (σ'' := ⟨[(29, (Enc.cells (t : Tr)))], [], [], 0, false⟩) rfl rfl rfl rfl (by dsimp only [aput, List.set]) rfl ?_
  refine w_op (a := .raw (.int .i64 0)) rfl rfl rfl rfl (by dsimp only [aput, List.set]) ?_
  refine w_seq ?_
  refine w_seq (w_region ?_)
  refine w_op (a := .ptr 0 6) rfl rfl rfl rfl (by dsimp only [aput, List.set]) ?_
  refine w_op (a := .raw (.int .i64 t.mx)) rfl rfl rfl rfl (by dsimp only [aput, List.set]) ?_
  refine w_op (a := .raw (.bool (t.mx == (-1)))) rfl rfl rfl rfl (by dsimp only [aput, List.set]) ?_
  refine bif_e h (fun hc1 h => ?_) (fun hc1 h => ?_)
  ·
    refine w_condT hc1 rfl ?_
    refine w_seq (w_region ?_)
    refine w_op (a := .raw (.int .i64 9223372036854775807)) rfl rfl rfl rfl (by dsimp only [aput, List.set]) ?_
    exact end_pureF (fun (r : Int) => (.raw (.int .i64 r) : AV)) h (a := .raw (.int .i64 9223372036854775807)) rfl rfl rfl
  ·
    refine w_condF hc1 rfl ?_
    refine w_seq (w_region ?_)
    refine w_op (a := .ptr 0 6) rfl rfl rfl rfl (by dsimp only [aput, List.set]) ?_
    refine w_op (a := .raw (.int .i64 t.mx)) rfl rfl rfl rfl (by dsimp only [aput, List.set]) ?_
    refine w_op (a := .raw (.int .i64 t.mx)) rfl rfl rfl rfl (by dsimp only [aput, List.set]) ?_
    exact end_pureF (fun (r : Int) => (.raw (.int .i64 r) : AV)) h (a := .raw (.int .i64 t.mx)) rfl rfl rfl
def F_cmpOr (fuel : Nat) (l : (List Int)) : Option Int :=
  (cutE (τ := Unit) (loopE (β := Int) (fun s1 => (bif (decide (s1 < (List.length l : Int))) then (chk (0 ≤ s1 ∧ s1 < (List.length l : Int)) (bif ((ix l s1) != 0) then (some (Sum.inr (Sum.inr (ix l s1)))) else (chk (-9223372036854775808 ≤ (s1 + 1) ∧ (s1 + 1) < 9223372036854775808) (some (Sum.inl ((s1 + 1))))))) else (some (Sum.inr (Sum.inl ()))))) fuel (0)) (fun j1 => (some 0)))
theorem ent52 : Ent Try.prog 52 := enters_of Try.func52 (by kernel_rfl) rfl
set_option maxRecDepth 100000 in
set_option maxHeartbeats 4000000 in
theorem cmpOr_sh (fuel : Nat) (l : (List Int)) (r : Int) (h : F_cmpOr fuel l = some r) : Pure (ITP Try.prog) Try.prog 52 [.list (List.length (l : List Int)) (Enc.cellsL (l : List Int)) .none] (.raw (.int .i64 r)) := by
  obtain ⟨d, hd⟩ : ∃ d, Try.f52.body = some d := ⟨_, rfl⟩
  refine pure_of mix Try.func52 hd ent52 ?_
  cases hd
  unfold F_cmpOr at h
  refine w_start (by dsimp only [abeginS, Try.f52, List.length_cons, List.length_nil, Nat.zero_add, Nat.reduceAdd, Nat.reduceSub, List.replicate, List.cons_append, List.nil_append]) (by dsimp only [St.empty]) ?_
  refine w_seq (w_region ?_)
  refine w_op (a := .raw (.int .i64 0)) rfl rfl rfl rfl (by dsimp only [aput, List.set]) ?_
  refine w_seq (w_region ?_)
  refine w_op (a := .raw (.int .i64 0)) rfl rfl rfl rfl (by dsimp only [aput, List.set]) ?_
  refine w_cutF h [0, 1, 2, 4, 5, 6, 7, 8, 9, 10, 11, 12, 13, 14, 15, 16, 17] (fun j1 => []) (fun j1 => ⟨[], [], [], 0, false⟩) ?_ ?_
  ·
    intro or1 h hr1
    refine w_seq (w_region ?_)
    refine w_op (a := .list (List.length (l : List Int)) (Enc.cellsL (l : List Int)) .none) rfl rfl rfl rfl (by dsimp only [aput, List.set]) ?_
    refine w_op (a := .raw (.int .i64 (List.length l : Int))) rfl rfl rfl rfl (by dsimp only [aput, List.set]) ?_
    refine w_op (a := .raw (.int .i64 0)) rfl rfl rfl rfl (by dsimp only [aput, List.set]) ?_
    refine w_block ?_
    refine w_loopF h [0, 1, 2, 4, 5, 8, 9, 10, 11, 12, 13, 14, 15, 16, 17] (fun s1 => [(8, .raw (.int .i64 s1))]) (fun s1 => ⟨[], [], [], 0, false⟩) ?_ ?_
    · exact wm_of [false, false, false, true, false, false, true, true, true, false, false, false, false, false, false, false, false, false] (by kernel_rfl) (by kernel_rfl)
    · intro s1 p1 h
      refine w_start (by dsimp only [setAll, topAll, List.foldl, List.set]) rfl ?_
      refine w_seq (w_region ?_)
      refine w_op (a := .raw (.bool (decide (s1 < (List.length l : Int))))) rfl rfl rfl rfl (by dsimp only [aput, List.set]) ?_
      refine w_seq ?_
      refine bif_e h (fun hc1 h => ?_) (fun hc1 h => ?_)
      ·
        refine w_condT hc1 rfl ?_
        refine w_seq ?_
        refine w_block ?_
        refine w_seq (w_region ?_)
        obtain ⟨g1, h⟩ := chk_e h
        refine w_op (a := .iptr (Enc.cells (ix l s1) ++ Enc.cellsL (List.drop (Int.toNat s1 + 1) l))) rfl rfl rfl (op_q (q_idx (α := Int) (l := l) g1 rfl rfl rfl rfl rfl)) (by dsimp only [aput, List.set]) ?_
        refine w_op (a := .raw (.int .i64 (ix l s1))) rfl rfl rfl rfl (by dsimp only [aput, List.set]) ?_
        refine w_op (a := .raw (.int .i64 (ix l s1))) rfl rfl rfl rfl (by dsimp only [aput, List.set]) ?_
        refine w_seq (w_region ?_)
        refine w_op (a := .raw (.int .i64 (ix l s1))) rfl rfl rfl rfl (by dsimp only [aput, List.set]) ?_
        refine w_op (a := .raw (.int .i64 0)) rfl rfl rfl rfl (by dsimp only [aput, List.set]) ?_
        refine w_op (a := .raw (.bool ((ix l s1) != 0))) rfl rfl rfl rfl (by dsimp only [aput, List.set]) ?_
        refine bif_e h (fun hc2 h => ?_) (fun hc2 h => ?_)
        ·
          refine w_condT hc2 rfl ?_
          refine w_seq (w_region ?_)
          refine w_op (a := .raw (.int .i64 (ix l s1))) rfl rfl rfl rfl (by dsimp only [aput, List.set]) ?_
          refine w_op (a := .raw (.int .i64 (ix l s1))) rfl rfl rfl rfl (by dsimp only [aput, List.set]) ?_
          refine loop_exit h (fun h => ?_)
          replace h := cut_inr h hr1
          exact end_pureF (fun (r : Int) => (.raw (.int .i64 r) : AV)) h (a := .raw (.int .i64 (ix l s1))) rfl rfl rfl
        ·
          refine w_condF hc2 rfl ?_
          refine w_region (id := 7) ?_
          obtain ⟨g2, h⟩ := chk_e h
          refine w_op (a := .raw (.int .i64 (s1 + 1))) rfl rfl rfl (op_q (q_add rfl rfl rfl rfl g2.1 g2.2)) (by dsimp only [aput, List.set]) ?_
          refine w_op (a := .raw (.int .i64 (s1 + 1))) rfl rfl rfl rfl (by dsimp only [aput, List.set]) ?_
          refine loop_next (p := p1) ((s1 + 1)) h ?_
          exact wm_of [false, false, false, true, false, false, true, true, true, false, false, false, false, false, false, false, false, false] (by kernel_rfl) (by kernel_rfl)
      ·
        refine w_condF hc1 rfl ?_
        refine loop_exit h (fun h => ?_)
        refine cut_done (o := or1) () h ?_
        exact wm_of [false, false, false, true, false, false, false, false, false, false, false, false, false, false, false, false, false, false] (by kernel_rfl) (by kernel_rfl)
  ·
    intro j1 h
    refine w_start (by dsimp only [setAll, topAll, List.foldl, List.set]) rfl ?_
    refine w_seq (w_region ?_)
    refine w_op (a := .raw (.int .i64 0)) rfl rfl rfl rfl (by dsimp only [aput, List.set]) ?_
    refine w_op (a := .raw (.int .i64 0)) rfl rfl rfl rfl (by dsimp only [aput, List.set]) ?_
    exact end_pureF (fun (r : Int) => (.raw (.int .i64 r) : AV)) h (a := .raw (.int .i64 0)) rfl rfl rfl
theorem q_loadW {ρ : Operand → AV} {σ : St} {o : Oper} {x : Operand} {b : Nat} {t : TypeId} {i : Int} (s : BS) (hi : 0 ≤ i ∧ i < 4) (ho : o.op = .load 24 x) (hx : ρ x = .ptr b (0 + i.toNat * 1)) (hb : σ.boxes[b]? = some (t, Enc.cells s)) : qop Try.prog ρ σ o = some (.raw (.int .u64 (wd s i.toNat))) := by
  have key : ∀ j : Nat, j < 4 → rd Try.prog 24 ((Enc.cells s).drop (0 + j * 1)) = some (.raw (.int .u64 (wd s j))) := by
    intro j hj
    match j, hj with
    | 0, _ => rfl
    | 1, _ => rfl
    | 2, _ => rfl
    | 3, _ => rfl
  simp only [qop, ho, aLoad, hx, hb]
  exact key i.toNat (by omega)
def F_has (s : BS) (c : Int) : Option Bool :=
  (chk (0 ≤ (shrI .u8 c 6) ∧ (shrI .u8 c 6) < 4) (chk (0 ≤ (andI .u8 c 63)) (some ((andI .u64 (shrI .u64 (wd s (Int.toNat (shrI .u8 c 6))) (andI .u8 c 63)) 1) == 1))))
theorem ent62 : Ent Try.prog 62 := enters_of Try.func62 (by kernel_rfl) rfl
set_option maxRecDepth 100000 in
set_option maxHeartbeats 4000000 in
theorem has_sh (s : BS) (c : Int) (r : Bool) (h : F_has s c = some r) : Pure (ITP Try.prog) Try.prog 62 [.agg (Enc.cells (s : BS)), .raw (.int .u8 c)] (.raw (.bool r)) := by
  obtain ⟨d, hd⟩ : ∃ d, Try.f62.body = some d := ⟨_, rfl⟩
  refine pure_of mix Try.func62 hd ent62 ?_
  cases hd
  unfold F_has at h
  refine w_start (by dsimp only [abeginS, Try.f62, List.length_cons, List.length_nil, Nat.zero_add, Nat.reduceAdd, Nat.reduceSub, List.replicate, List.cons_append, List.nil_append]) (by dsimp only [St.empty]) ?_
  refine w_seq (w_region ?_)
  refine w_opm (a := .ptr 0 0) (σ'' := ⟨[(26, (Enc.cells (s : BS)))], [], [], 0, false⟩) rfl rfl rfl rfl (by dsimp only [aput, List.set]) rfl ?_
  refine w_op (a := .raw (.bool false)) rfl rfl rfl rfl (by dsimp only [aput, List.set]) ?_
  refine w_seq (w_region ?_)
  refine w_op (a := .raw (.int .u8 c)) rfl rfl rfl rfl (by dsimp only [aput, List.set]) ?_
  refine w_op (a := .raw (.int .u8 (shrI .u8 c 6))) rfl rfl rfl (op_q (q_shr (by decide) rfl rfl rfl)) (by dsimp only [aput, List.set]) ?_
  obtain ⟨g1, h⟩ := chk_e h
  refine w_op (a := .ptr 0 (0 + Int.toNat (shrI .u8 c 6) * 1)) rfl rfl rfl (op_q (q_idxA g1 rfl rfl rfl rfl rfl)) (by dsimp only [aput, List.set]) ?_
  refine w_op (a := .raw (.int .u64 (wd s (Int.toNat (shrI .u8 c 6))))) rfl rfl rfl (op_q (q_loadW s (by omega) rfl rfl rfl)) (by dsimp only [aput, List.set]) ?_
  refine w_op (a := .raw (.int .u8 c)) rfl rfl rfl rfl (by dsimp only [aput, List.set]) ?_
  refine w_op (a := .raw (.int .u8 (andI .u8 c 63))) rfl rfl rfl rfl (by dsimp only [aput, List.set]) ?_
  obtain ⟨g2, h⟩ := chk_e h
  refine w_op (a := .raw (.int .u64 (shrI .u64 (wd s (Int.toNat (shrI .u8 c 6))) (andI .u8 c 63)))) rfl rfl rfl (op_q (q_shr g2 rfl rfl rfl)) (by dsimp only [aput, List.set]) ?_
  refine w_op (a := .raw (.int .u64 (andI .u64 (shrI .u64 (wd s (Int.toNat (shrI .u8 c 6))) (andI .u8 c 63)) 1))) rfl rfl rfl rfl (by dsimp only [aput, List.set]) ?_
  refine w_op (a := .raw (.bool ((andI .u64 (shrI .u64 (wd s (Int.toNat (shrI .u8 c 6))) (andI .u8 c 63)) 1) == 1))) rfl rfl rfl rfl (by dsimp only [aput, List.set]) ?_
  refine w_op (a := .raw (.bool ((andI .u64 (shrI .u64 (wd s (Int.toNat (shrI .u8 c 6))) (andI .u8 c 63)) 1) == 1))) rfl rfl rfl rfl (by dsimp only [aput, List.set]) ?_
  exact end_pureF (fun (r : Bool) => (.raw (.bool r) : AV)) h (a := .raw (.bool ((andI .u64 (shrI .u64 (wd s (Int.toNat (shrI .u8 c 6))) (andI .u8 c 63)) 1) == 1))) rfl rfl rfl
def rowB (c : Int) : List AV := [.raw (.int .u8 c)]
noncomputable def F_all1 (fuel : Nat) (s : BS) (rows : List Int) : Option Nat :=
  (loopE (β := Int × Nat) (fun s1 => (bif (decide (s1.1 < 256)) then (cutE (τ := Nat) (bindE (F_has s (IntKind.u8.wrap s1.1)) (fun x1 => (bif x1 then (chkP (rows[s1.2]? = some (IntKind.u8.wrap s1.1)) (some (Sum.inl ((s1.2 + 1))))) else (some (Sum.inl (s1.2)))))) (fun j1 => (chk (-9223372036854775808 ≤ (s1.1 + 1) ∧ (s1.1 + 1) < 9223372036854775808) (some (Sum.inl ((s1.1 + 1), j1)))))) else (some (Sum.inr s1.2)))) fuel (0, 0))
theorem ent69 : Ent Try.prog 69 := enters_of Try.func69 (by kernel_rfl) rfl
set_option maxRecDepth 100000 in
set_option maxHeartbeats 4000000 in
theorem all1_sh (fuel : Nat) (s : BS) (rows : List Int) (h : F_all1 fuel s rows = some rows.length) (c : Code) (hc : Try.f69.body = some c) (l : Nat) : awp (ITP Try.prog) Try.prog (some (l, rows.map rowB)) c (aendG Try.prog Try.f69 rows.length) (abeginS Try.f69 [.yld l, .iptr (Enc.cells (s : BS))]) St.empty := by
  cases hc
  unfold F_all1 at h
  refine w_start (by dsimp only [abeginS, Try.f69, List.length_cons, List.length_nil, Nat.zero_add, Nat.reduceAdd, Nat.reduceSub, List.replicate, List.cons_append, List.nil_append]) (by dsimp only [St.empty]) ?_
  refine w_seq (w_region ?_)
  refine w_op (a := .raw (.int .i64 0)) rfl rfl rfl rfl (by dsimp only [aput, List.set]) ?_
  refine w_block ?_
  refine w_loopF h [2, 3, 4, 5, 6, 7, 8, 9, 10, 11, 12, 13, 14, 15, 16, 17, 18] (fun s1 => [(4, .raw (.int .i64 s1.1))]) (fun s1 => ⟨[], [], [], s1.2, false⟩) ?_ ?_
  · exact wm_of [true, true, false, false, true, false, false, false, false, false, false, false, false, false, false, false, false, false, false] (by kernel_rfl) (by kernel_rfl)
  · intro s1 p1 h
    refine w_start (by dsimp only [setAll, topAll, List.foldl, List.set]) rfl ?_
    refine w_seq (w_region ?_)
    refine w_op (a := .raw (.bool (decide (s1.1 < 256)))) rfl rfl rfl rfl (by dsimp only [aput, List.set]) ?_
    refine w_seq ?_
    refine bif_e h (fun hc1 h => ?_) (fun hc1 h => ?_)
    ·
      refine w_condT hc1 rfl ?_
      refine w_cutF h [3, 5, 6, 7, 8, 9, 10, 11, 12, 13, 14, 15, 16, 17] (fun j1 => []) (fun j1 => ⟨[], [], [], j1, false⟩) ?_ ?_
      ·
        intro or1 h hr1
        refine w_block ?_
        refine w_seq (w_region ?_)
        refine w_op (a := .raw (.int .i64 s1.1)) rfl rfl rfl rfl (by dsimp only [aput, List.set]) ?_
        refine w_op (a := .raw (.int .i64 s1.1)) rfl rfl rfl rfl (by dsimp only [aput, List.set]) ?_
        refine w_seq (w_region ?_)
        refine w_op (a := .agg (Enc.cells (s : BS))) rfl rfl rfl rfl (by dsimp only [aput, List.set]) ?_
        refine w_op (a := .raw (.int .i64 s1.1)) rfl rfl rfl rfl (by dsimp only [aput, List.set]) ?_
        refine w_op (a := .raw (.int .u8 (IntKind.u8.wrap s1.1))) rfl rfl rfl rfl (by dsimp only [aput, List.set]) ?_
        obtain ⟨x1, hx1, h⟩ := bindE_e h
        refine w_callc (args' := [.agg (Enc.cells (s : BS)), .raw (.int .u8 (IntKind.u8.wrap s1.1))]) (r := .raw (.bool x1)) (has_sh s (IntKind.u8.wrap s1.1) x1 hx1) rfl rfl (stripL_cons (strip_c (clo_agg (Enc.clo _))) (stripL_cons rfl rfl)) (okTrimL_cons (okTrim_clo _ _ (clo_agg (Enc.clo _))) (okTrimL_cons rfl rfl)) (by dsimp only [aput, List.set]) ?_
        refine bif_e h (fun hc2 h => ?_) (fun hc2 h => ?_)
        ·
          refine w_op (a := .raw (.bool true)) rfl rfl rfl (op_q (q_bool rfl hc2)) (by dsimp only [aput, List.set]) ?_
          refine w_met rfl rfl ?_
          refine w_op (a := .yld l) rfl rfl rfl rfl (by dsimp only [aput, List.set]) ?_
          refine w_met rfl rfl ?_
          refine w_op (a := .raw (.int .i64 s1.1)) rfl rfl rfl rfl (by dsimp only [aput, List.set]) ?_
          refine w_met rfl rfl ?_
          refine w_op (a := .raw (.int .u8 (IntKind.u8.wrap s1.1))) rfl rfl rfl rfl (by dsimp only [aput, List.set]) ?_
          refine w_met rfl rfl ?_
          obtain ⟨g1, h⟩ := chkP_e h
          refine w_yieldF (row := rowB) (x := (IntKind.u8.wrap s1.1)) (σ1 := ⟨[], [], [], (s1.2 + 1), false⟩) (σ2 := ⟨[], [], [], s1.2, true⟩) g1 (stripL_cons rfl rfl) (okTrimL_cons rfl rfl) (noIter_r rfl) rfl rfl rfl rfl rfl (by dsimp only [aput, List.set]) (by dsimp only [aput, List.set]) rfl rfl ?_ ?_
          ·
            refine w_met rfl rfl ?_
            refine w_op (a := .raw (.bool false)) rfl rfl rfl rfl (by dsimp only [aput, List.set]) ?_
            refine w_op (a := .raw (.bool false)) rfl rfl rfl rfl (by dsimp only [aput, List.set]) ?_
            refine w_false rfl ?_
            refine cut_done (o := or1) ((s1.2 + 1)) h ?_
            exact wm_of [true, true, true, false, true, false, false, false, false, false, false, false, false, false, false, false, false, false, true] (by kernel_rfl) (by kernel_rfl)
          ·
            refine w_met rfl rfl ?_
            refine w_op (a := .raw (.bool true)) rfl rfl rfl rfl (by dsimp only [aput, List.set]) ?_
            refine w_op (a := .raw (.bool true)) rfl rfl rfl rfl (by dsimp only [aput, List.set]) ?_
            refine w_true rfl ?_
            refine .inr ?_
            exact ⟨⟨.tup [], rfl⟩, .inl rfl⟩
        ·
          refine w_op (a := .raw (.bool false)) rfl rfl rfl (op_q (q_bool rfl hc2)) (by dsimp only [aput, List.set]) ?_
          refine w_pass rfl rfl (by decide) (by dsimp only [aput, List.set]) ?_
          refine w_pass rfl rfl (by decide) (by dsimp only [aput, List.set]) ?_
          refine w_pass rfl rfl (by decide) (by dsimp only [aput, List.set]) ?_
          refine w_pass rfl rfl (by decide) (by dsimp only [aput, List.set]) ?_
          refine w_pass rfl rfl (by decide) (by dsimp only [aput, List.set]) ?_
          refine w_op (a := .raw (.bool false)) rfl rfl rfl rfl (by dsimp only [aput, List.set]) ?_
          refine w_false rfl ?_
          refine cut_done (o := or1) (s1.2) h ?_
          exact wm_of [true, true, true, false, true, false, false, false, false, false, false, false, false, false, false, false, false, false, true] (by kernel_rfl) (by kernel_rfl)
      ·
        intro j1 h
        refine w_start (by dsimp only [setAll, topAll, List.foldl, List.set]) rfl ?_
        refine w_region (id := 4) ?_
        obtain ⟨g2, h⟩ := chk_e h
        refine w_op (a := .raw (.int .i64 (s1.1 + 1))) rfl rfl rfl (op_q (q_add rfl rfl rfl rfl g2.1 g2.2)) (by dsimp only [aput, List.set]) ?_
        refine w_op (a := .raw (.int .i64 (s1.1 + 1))) rfl rfl rfl rfl (by dsimp only [aput, List.set]) ?_
        refine loop_next (p := p1) ((s1.1 + 1), j1) h ?_
        exact wm_of [true, true, false, false, true, false, false, false, false, false, false, false, false, false, false, false, false, false, false] (by kernel_rfl) (by kernel_rfl)
    ·
      refine w_condF hc1 rfl ?_
      refine loop_exit h (fun h => ?_)
      exact ⟨⟨.tup [], rfl⟩, .inr (Option.some.inj h)⟩
theorem ent65 : Ent Try.prog 65 := enters_of Try.func65 (by kernel_rfl) rfl
set_option maxRecDepth 100000 in
set_option maxHeartbeats 4000000 in
theorem all_sh (fuel : Nat) (s : BS) (rows : List Int) (h : F_all1 fuel s rows = some rows.length) : Pure (ITP Try.prog) Try.prog 65 [.agg (Enc.cells (s : BS))] (.iter (rows.map rowB)) := by
  obtain ⟨d, hd⟩ : ∃ d, Try.f65.body = some d := ⟨_, rfl⟩
  refine pure_of mix Try.func65 hd ent65 ?_
  cases hd
  refine w_start (by dsimp only [abeginS, Try.f65, List.length_cons, List.length_nil, Nat.zero_add, Nat.reduceAdd, Nat.reduceSub, List.replicate, List.cons_append, List.nil_append]) (by dsimp only [St.empty]) ?_
  refine w_seq (w_region ?_)
  refine w_opm (a := .ptr 0 0) (σ'' := ⟨[(26, (Enc.cells (s : BS)))], [], [], 0, false⟩) rfl rfl rfl rfl (by dsimp only [aput, List.set]) rfl ?_
  refine w_op (a := .raw Value.nilFunc) rfl rfl rfl rfl (by dsimp only [aput, List.set]) ?_
  refine w_seq (w_region ?_)
  refine w_op (a := .clos 69 [.ptr 0 0]) rfl rfl rfl rfl (by dsimp only [aput, List.set]) ?_
  refine w_op (a := .clos 69 [.ptr 0 0]) rfl rfl rfl rfl (by dsimp only [aput, List.set]) ?_
  exact iter_ends 1 (row := rowB) (caps := [.iptr (Enc.cells (s : BS))]) mix rfl (congrArg (fun z => AV.clos 69 [.iptr z]) (mapPtrL_clo _ _ (Enc.clo _))) Try.func69 rfl ent69 (by first | rfl | simp [cloL, clo, Enc.clo, cloL_append, Enc.cloL]) (fun l => all1_sh fuel s rows h _ rfl l)
theorem or_run (a b : BS) : Pure (ITP Try.prog) Try.prog 60 [.agg (Enc.cells a), .agg (Enc.cells b)] (.agg [.raw (.int .u64 (orI .u64 (wd a 0) (wd b 0))), .raw (.int .u64 (orI .u64 (wd a 1) (wd b 1))), .raw (.int .u64 (orI .u64 (wd a 2) (wd b 2))), .raw (.int .u64 (orI .u64 (wd a 3) (wd b 3)))]) := run_pure_call goodTry 100 (by kernel_rfl)
theorem less_run (a b : BS) : Pure (ITP Try.prog) Try.prog 61 [.agg (Enc.cells a), .agg (Enc.cells b)] (.agg [.raw (.int .u64 (andNotI .u64 (wd a 0) (wd b 0))), .raw (.int .u64 (andNotI .u64 (wd a 1) (wd b 1))), .raw (.int .u64 (andNotI .u64 (wd a 2) (wd b 2))), .raw (.int .u64 (andNotI .u64 (wd a 3) (wd b 3)))]) := run_pure_call goodTry 100 (by kernel_rfl)
theorem bits_u8 : ∀ j : Nat, j < 256 → shrI .u8 (j : Int) 6 = ((j / 64 : Nat) : Int) ∧ andI .u8 (j : Int) 63 = ((j % 64 : Nat) : Int) ∧ IntKind.u8.wrap (j : Int) = (j : Int) := by decide +kernel
theorem wrap_u64n {n : Nat} (h : n < 2 ^ 64) : IntKind.u64.wrap (n : Int) = (n : Int) := by
  simp only [IntKind.wrap, IntKind.bits, IntKind.signed]
  simp; omega
theorem wrap_u64 (w : BitVec 64) : IntKind.u64.wrap ((w.toNat : Nat) : Int) = ((w.toNat : Nat) : Int) := wrap_u64n w.isLt
theorem ofInt64 (x : BitVec 64) : BitVec.ofInt 64 ((x.toNat : Nat) : Int) = x := by
  apply BitVec.eq_of_toNat_eq; simp
theorem orI64 (x y : BitVec 64) : orI .u64 (x.toNat : Int) (y.toNat : Int) = ((x ||| y).toNat : Int) := by
  show IntKind.u64.wrap (((BitVec.ofInt 64 (x.toNat : Int) ||| BitVec.ofInt 64 (y.toNat : Int)).toNat : Nat) : Int) = _
  rw [ofInt64, ofInt64]; exact wrap_u64 _
theorem andNotI64 (x y : BitVec 64) : andNotI .u64 (x.toNat : Int) (y.toNat : Int) = ((x &&& ~~~ y).toNat : Int) := by
  show IntKind.u64.wrap (((BitVec.ofInt 64 (x.toNat : Int) &&& ~~~ BitVec.ofInt 64 (y.toNat : Int)).toNat : Nat) : Int) = _
  rw [ofInt64, ofInt64]; exact wrap_u64 _
theorem wd_or (a b : BS) (i : Nat) : orI .u64 (wd a i) (wd b i) = wd (a ||| b) i := by
  unfold wd
  rw [orI64]
  have : W64 a i ||| W64 b i = W64 (a ||| b) i := by
    apply BitVec.eq_of_getLsbD_eq
    intro j hj
    simp only [W64, BitVec.getLsbD_or, BitVec.getLsbD_extractLsb', hj, decide_true, Bool.true_and]
  rw [this]
theorem wd_less (a b : BS) (i : Nat) (hi : i < 4) : andNotI .u64 (wd a i) (wd b i) = wd (a &&& ~~~ b) i := by
  unfold wd
  rw [andNotI64]
  have : W64 a i &&& ~~~ W64 b i = W64 (a &&& ~~~ b) i := by
    apply BitVec.eq_of_getLsbD_eq
    intro j hj
    simp only [W64, BitVec.getLsbD_and, BitVec.getLsbD_not, BitVec.getLsbD_extractLsb', hj, decide_true, Bool.true_and]
    have : 64 * i + j < 256 := by omega
    simp [this]
  rw [this]
theorem k_or2 (a b : BS) : Pure (ITP Try.prog) Try.prog 60 [.agg (Enc.cells a), .agg (Enc.cells b)] (.agg (Enc.cells (a ||| b))) := by
  have := or_run a b
  simp only [wd_or] at this; exact this
theorem k_less (a b : BS) : Pure (ITP Try.prog) Try.prog 61 [.agg (Enc.cells a), .agg (Enc.cells b)] (.agg (Enc.cells (a &&& ~~~ b))) := by
  have := less_run a b
  rw [wd_less _ _ 0 (by decide), wd_less _ _ 1 (by decide), wd_less _ _ 2 (by decide), wd_less _ _ 3 (by decide)] at this; exact this
theorem word_bit (w : BitVec 64) (r : Nat) (hr : r < 64) : (andI .u64 (shrI .u64 ((w.toNat : Nat) : Int) (r : Int)) 1 == 1) = w.getLsbD r := by
  have hw := w.isLt
  have h1 : shrI .u64 ((w.toNat : Nat) : Int) (r : Int) = ((w.toNat / 2 ^ r : Nat) : Int) := by
    unfold shrI
    rw [show min (r : Int).toNat IntKind.u64.bits = r from by simp [IntKind.bits]; omega]
    rw [Int.fdiv_eq_ediv_of_nonneg _ (by exact_mod_cast Nat.zero_le _)]
    norm_cast
  rw [h1]
  have h2 : w.toNat / 2 ^ r < 2 ^ 64 := Nat.lt_of_le_of_lt (Nat.div_le_self _ _) hw
  show (IntKind.u64.wrap (((BitVec.ofInt 64 ((w.toNat / 2 ^ r : Nat) : Int) &&& BitVec.ofInt 64 1).toNat : Nat) : Int) == 1) = _
  have h3 : (BitVec.ofInt 64 ((w.toNat / 2 ^ r : Nat) : Int) &&& BitVec.ofInt 64 1).toNat = w.toNat / 2 ^ r % 2 := by
    rw [BitVec.toNat_and]
    have e1 : (BitVec.ofInt 64 ((w.toNat / 2 ^ r : Nat) : Int)).toNat = w.toNat / 2 ^ r := by
      rw [BitVec.ofInt_natCast, BitVec.toNat_ofNat]; exact Nat.mod_eq_of_lt h2
    have e2 : (BitVec.ofInt 64 1).toNat = 1 := rfl
    rw [e1, e2, Nat.and_one_is_mod]
  rw [h3]
  have h4 : w.toNat / 2 ^ r % 2 < 2 := Nat.mod_lt _ (by decide)
  have h5 : IntKind.u64.wrap ((w.toNat / 2 ^ r % 2 : Nat) : Int) = ((w.toNat / 2 ^ r % 2 : Nat) : Int) := wrap_u64n (Nat.lt_trans h4 (by decide))
  rw [h5, BitVec.getLsbD, Nat.testBit_eq_decide_div_mod_eq]
  generalize w.toNat / 2 ^ r % 2 = m
  rw [Bool.eq_iff_iff]; simp only [beq_iff_eq, decide_eq_true_eq]; omega
theorem has_eq (s : BS) (j : Nat) (hj : j < 256) : F_has s (j : Int) = some (s.getLsbD j) := by
  obtain ⟨h1, h2, _⟩ := bits_u8 j hj
  unfold F_has
  rw [h1, h2]
  refine chk_i (by omega) (chk_i (by omega) ?_)
  congr 1
  have := word_bit (W64 s (j / 64)) (j % 64) (Nat.mod_lt _ (by decide))
  rw [show wd s (Int.toNat ((j / 64 : Nat) : Int)) = ((W64 s (j / 64)).toNat : Int) from rfl, this]
  simp only [W64, BitVec.getLsbD_extractLsb', Nat.mod_lt _ (show 0 < 64 by decide), decide_true, Bool.true_and]
  rw [show 64 * (j / 64) + j % 64 = j by omega]
/-- The bytes of a set. -/
def elN (s : BS) (i : Nat) : List Nat := (List.range i).filter fun j => s.getLsbD j
def els (s : BS) : List Int := (elN s 256).map fun (j : Nat) => (j : Int)
theorem elN_succ (s : BS) (i : Nat) : elN s (i + 1) = elN s i ++ (if s.getLsbD i = true then [i] else []) := by
  rw [elN, List.range_succ, List.filter_append]; simp [elN, List.filter_cons]
theorem elN_pre (s : BS) {i : Nat} (h : s.getLsbD i = true) : ∀ k, i < k → (elN s k)[(elN s i).length]? = some i
  | 0, hk => by omega
  | k + 1, hk => by
    rw [elN_succ]
    by_cases e : i = k
    · subst e; rw [if_pos h]; simp
    · have ih := elN_pre s h k (by omega)
      rw [List.getElem?_append_left (List.getElem?_eq_some_iff.1 ih).1]; exact ih
theorem all1_eq (s : BS) : F_all1 257 s (els s) = some (els s).length := by
  unfold F_all1
  refine loopE_i 256 (fun i => ((i : Int), (elN s i).length)) rfl (fun i hi => ?_) ?_ (by decide)
  · refine bif_t (by simp; omega) ?_
    refine cutE_i (elN s (i + 1)).length ?_ ?_
    · refine bindE_i (s.getLsbD i) ?_ ?_
      · simp only [(bits_u8 i hi).2.2]; exact has_eq s i hi
      · rw [elN_succ]
        refine bif_i (fun hb => ?_) (fun hb => ?_)
        · refine chkP_i ?_ ?_
          · simp only [(bits_u8 i hi).2.2, els, List.getElem?_map, elN_pre s hb 256 hi, Option.map_some]
          · rw [if_pos hb]; simp
        · rw [if_neg (by rw [hb]; decide)]; simp
    · refine chk_i (by simp only; omega) ?_
      simp
  · refine bif_f (by simp) ?_
    simp [els]

def F_first (s : BS) : Option (Int × Bool) :=
  (cutE (τ := Unit) (letE (els s) (fun x1 => (cutE (rangeE (β := Unit) (fun s1 w1 => (some (Sum.inr (Sum.inr (w1, true))))) x1 ()) (fun s1 => (some (Sum.inl ())))))) (fun j1 => (some (0, false))))
theorem ent59 : Ent Try.prog 59 := enters_of Try.func59 (by kernel_rfl) rfl
set_option maxRecDepth 100000 in
set_option maxHeartbeats 4000000 in
theorem first_sh (s : BS) (r : (Int × Bool)) (h : F_first s = some r) : Pure (ITP Try.prog) Try.prog 59 [.agg (Enc.cells (s : BS))] (.tup [.raw (.int .u8 r.1), .raw (.bool r.2)]) := by
  obtain ⟨d, hd⟩ : ∃ d, Try.f59.body = some d := ⟨_, rfl⟩
  refine pure_of mix Try.func59 hd ent59 ?_
  cases hd
  unfold F_first at h
  refine w_start (by dsimp only [abeginS, Try.f59, List.length_cons, List.length_nil, Nat.zero_add, Nat.reduceAdd, Nat.reduceSub, List.replicate, List.cons_append, List.nil_append]) (by dsimp only [St.empty]) ?_
  refine w_seq (w_region ?_)
  refine w_opm (a := .ptr 0 0) (σ'' := ⟨[(26, (Enc.cells (s : BS)))], [], [], 0, false⟩) rfl rfl rfl rfl (by dsimp only [aput, List.set]) rfl ?_
  refine w_opm (a := .ptr 1 0) (σ'' := ⟨[(26, (Enc.cells (s : BS))), (5, [.raw (.int .u8 0)])], [], [], 0, false⟩) rfl rfl rfl rfl (by dsimp only [aput, List.set]) rfl ?_
  refine w_opm (a := .ptr 2 0) (σ'' := ⟨[(26, (Enc.cells (s : BS))), (5, [.raw (.int .u8 0)]), (4, [.raw (.bool false)])], [], [], 0, false⟩) rfl rfl rfl rfl (by dsimp only [aput, List.set]) rfl ?_
  refine w_cutF h [0, 1, 4, 5, 6, 7, 8] (fun j1 => []) (fun j1 => ⟨[(26, (Enc.cells (s : BS))), (5, [.raw (.int .u8 0)]), (4, [.raw (.bool false)])], [], [], 0, false⟩) ?_ ?_
  ·
    intro or1 h hr1
    refine w_seq (w_region ?_)
    refine w_op (a := .agg (Enc.cells (s : BS))) rfl rfl rfl rfl (by dsimp only [aput, List.set]) ?_
    obtain ⟨x1, hx1, h⟩ := letE_e h
    refine w_callc (args' := [.agg (Enc.cells (s : BS))]) (r := .iter (List.map rowB x1)) (by rw [← hx1]; exact (all_sh 257 s _ (all1_eq s))) rfl rfl (stripL_cons (strip_c (clo_agg (Enc.clo _))) rfl) (okTrimL_cons (okTrim_clo _ _ (clo_agg (Enc.clo _))) rfl) (by dsimp only [aput, List.set]) ?_
    refine w_block ?_
    refine w_rangeF h rowB (fun s1 => ⟨[(26, (Enc.cells (s : BS))), (5, [.raw (.int .u8 0)]), (4, [.raw (.bool false)])], [], [], 0, false⟩) rfl (fun _ => rfl) rfl rfl ?_ ?_
    · intro s1 w1 p1 h
      refine w_start (by dsimp only [aputs, List.zip, List.zipWith, List.foldl, List.set, Array.toList]) rfl ?_
      refine w_region (id := 2) ?_
      refine w_op (a := .raw (.int .u8 w1)) rfl rfl rfl rfl (by dsimp only [aput, List.set]) ?_
      refine w_block ?_
      refine w_seq (w_region ?_)
      refine w_op (a := .raw (.int .u8 w1)) rfl rfl rfl rfl (by dsimp only [aput, List.set]) ?_
      refine w_opm (σ'' := ⟨[(26, (Enc.cells (s : BS))), (5, [.raw (.int .u8 w1)]), (4, [.raw (.bool false)])], [], [], 0, false⟩) rfl rfl rfl (op_storeW (n := 1) rfl rfl rfl rfl rfl rfl rfl rfl (by decide)) (by dsimp only [aput, List.set]) rfl ?_
      refine w_opm (σ'' := ⟨[(26, (Enc.cells (s : BS))), (5, [.raw (.int .u8 w1)]), (4, [.raw (.bool true)])], [], [], 0, false⟩) rfl rfl rfl (op_storeW (n := 1) rfl rfl rfl rfl rfl rfl rfl rfl (by decide)) (by dsimp only [aput, List.set]) rfl ?_
      refine loop_exit h (fun h => ⟨(okSt_of (okB_cons (okTrimL_clo _ _ (Enc.clo _)) (okB_cons (okTrimL_cons rfl rfl) (okB_cons (okTrimL_cons rfl rfl) rfl)))), ?_⟩)
      replace h := cut_inr h hr1
      exact end_pureF (fun (r : (Int × Bool)) => (.tup [.raw (.int .u8 r.1), .raw (.bool r.2)] : AV)) h (a := .tup [.raw (.int .u8 w1), .raw (.bool true)]) rfl (show okTrimL _ _ = true from (okTrimL_cons rfl (okTrimL_cons rfl rfl))) (show AV.tup (stripL _) = _ from congrArg AV.tup (stripL_cons rfl (stripL_cons rfl rfl)))
    · intro s1 h
      refine cut_done (o := or1) () h ?_
      exact wm_of [false, false, true, true, false, false, false, false, false] (by kernel_rfl) (by kernel_rfl)
  ·
    intro j1 h
    refine w_start (by dsimp only [setAll, topAll, List.foldl, List.set]) rfl ?_
    refine w_seq (w_region ?_)
    refine w_opm (σ'' := ⟨[(26, (Enc.cells (s : BS))), (5, [.raw (.int .u8 0)]), (4, [.raw (.bool false)])], [], [], 0, false⟩) rfl rfl rfl (op_storeW (n := 1) rfl rfl rfl rfl rfl rfl rfl rfl (by decide)) (by dsimp only [aput, List.set]) rfl ?_
    refine w_opm (σ'' := ⟨[(26, (Enc.cells (s : BS))), (5, [.raw (.int .u8 0)]), (4, [.raw (.bool false)])], [], [], 0, false⟩) rfl rfl rfl (op_storeW (n := 1) rfl rfl rfl rfl rfl rfl rfl rfl (by decide)) (by dsimp only [aput, List.set]) rfl ?_
    exact end_pureF (fun (r : (Int × Bool)) => (.tup [.raw (.int .u8 r.1), .raw (.bool r.2)] : AV)) h (a := .tup [.raw (.int .u8 0), .raw (.bool false)]) rfl (show okTrimL _ _ = true from (okTrimL_cons rfl (okTrimL_cons rfl rfl))) (show AV.tup (stripL _) = _ from congrArg AV.tup (stripL_cons rfl (stripL_cons rfl rfl)))
def F_setcmp (a : BS) (b : BS) : Option Int :=
  (letE (a &&& ~~~b) (fun x1 => (letE (b &&& ~~~a) (fun x2 => (letE (x1 ||| x2) (fun x3 => (bindE (F_first x3) (fun x4 => (bif (!x4.2) then (some 0) else (bindE (F_has a x4.1) (fun x5 => (bif x5 then (some (-1)) else (some 1)))))))))))))
theorem ent51 : Ent Try.prog 51 := enters_of Try.func51 (by kernel_rfl) rfl
set_option maxRecDepth 100000 in
set_option maxHeartbeats 4000000 in
theorem setcmp_sh (a : BS) (b : BS) (r : Int) (h : F_setcmp a b = some r) : Pure (ITP Try.prog) Try.prog 51 [.agg (Enc.cells (a : BS)), .agg (Enc.cells (b : BS))] (.raw (.int .i64 r)) := by
  obtain ⟨d, hd⟩ : ∃ d, Try.f51.body = some d := ⟨_, rfl⟩
  refine pure_of mix Try.func51 hd ent51 ?_
  cases hd
  unfold F_setcmp at h
  refine w_start (by dsimp only [abeginS, Try.f51, List.length_cons, List.length_nil, Nat.zero_add, Nat.reduceAdd, Nat.reduceSub, List.replicate, List.cons_append, List.nil_append]) (by dsimp only [St.empty]) ?_
  refine w_seq (w_region ?_)
  refine w_opm (a := .ptr 0 0) (σ'' := ⟨[(26, (Enc.cells (a : BS)))], [], [], 0, false⟩) rfl rfl rfl rfl (by dsimp only [aput, List.set]) rfl ?_
  refine w_opm (a := .ptr 1 0) (σ'' := ⟨[(26, (Enc.cells (a : BS))), (26, (Enc.cells (b : BS)))], [], [], 0, false⟩) rfl rfl rfl rfl (by dsimp only [aput, List.set]) rfl ?_
  refine w_op (a := .raw (.int .i64 0)) rfl rfl rfl rfl (by dsimp only [aput, List.set]) ?_
  refine w_seq ?_
  refine w_draw (id := 1) 12 (by kernel_rfl) (by kernel_rfl) ?_
  refine h_op (a := .agg (Enc.cells (a : BS))) rfl rfl rfl rfl (by dsimp only [aput, List.set]) ?_
  refine h_op (a := .agg (Enc.cells (b : BS))) rfl rfl rfl rfl (by dsimp only [aput, List.set]) ?_
  obtain ⟨x1, hx1, h⟩ := letE_e h
  refine h_call (args' := [.agg (Enc.cells (a : BS)), .agg (Enc.cells (b : BS))]) (r := .agg (Enc.cells (x1 : BS))) (by rw [← hx1]; exact (k_less a b)) rfl rfl rfl (stripL_cons (strip_c (clo_agg (Enc.clo _))) (stripL_cons (strip_c (clo_agg (Enc.clo _))) rfl)) (okTrimL_cons (okTrim_clo _ _ (clo_agg (Enc.clo _))) (okTrimL_cons (okTrim_clo _ _ (clo_agg (Enc.clo _))) rfl)) (by dsimp only [aput, List.set]) ?_
  refine h_op (a := .agg (Enc.cells (b : BS))) rfl rfl rfl rfl (by dsimp only [aput, List.set]) ?_
  refine h_op (a := .agg (Enc.cells (a : BS))) rfl rfl rfl rfl (by dsimp only [aput, List.set]) ?_
  obtain ⟨x2, hx2, h⟩ := letE_e h
  refine h_call (args' := [.agg (Enc.cells (b : BS)), .agg (Enc.cells (a : BS))]) (r := .agg (Enc.cells (x2 : BS))) (by rw [← hx2]; exact (k_less b a)) rfl rfl rfl (stripL_cons (strip_c (clo_agg (Enc.clo _))) (stripL_cons (strip_c (clo_agg (Enc.clo _))) rfl)) (okTrimL_cons (okTrim_clo _ _ (clo_agg (Enc.clo _))) (okTrimL_cons (okTrim_clo _ _ (clo_agg (Enc.clo _))) rfl)) (by dsimp only [aput, List.set]) ?_
  obtain ⟨x3, hx3, h⟩ := letE_e h
  refine h_call (args' := [.agg (Enc.cells (x1 : BS)), .agg (Enc.cells (x2 : BS))]) (r := .agg (Enc.cells (x3 : BS))) (by rw [← hx3]; exact (k_or2 x1 x2)) rfl rfl rfl (stripL_cons (strip_c (clo_agg (Enc.clo _))) (stripL_cons (strip_c (clo_agg (Enc.clo _))) rfl)) (okTrimL_cons (okTrim_clo _ _ (clo_agg (Enc.clo _))) (okTrimL_cons (okTrim_clo _ _ (clo_agg (Enc.clo _))) rfl)) (by dsimp only [aput, List.set]) ?_
  obtain ⟨x4, hx4, h⟩ := bindE_e h
  refine h_call (args' := [.agg (Enc.cells (x3 : BS))]) (r := .tup [.raw (.int .u8 x4.1), .raw (.bool x4.2)]) (first_sh x3 x4 hx4) rfl rfl rfl (stripL_cons (strip_c (clo_agg (Enc.clo _))) rfl) (okTrimL_cons (okTrim_clo _ _ (clo_agg (Enc.clo _))) rfl) (by dsimp only [aput, List.set]) ?_
  refine h_op (a := .tup [.raw (.int .u8 x4.1), .raw (.bool x4.2)]) rfl rfl rfl rfl (by dsimp only [aput, List.set]) ?_
  refine h_op (a := .raw (.int .u8 x4.1)) rfl rfl rfl rfl (by dsimp only [aput, List.set]) ?_
  refine h_op (a := .raw (.bool x4.2)) rfl rfl rfl rfl (by dsimp only [aput, List.set]) ?_
  refine h_op (a := .raw (.int .u8 x4.1)) rfl rfl rfl rfl (by dsimp only [aput, List.set]) ?_
  refine h_end ?_
  refine w_op (a := .raw (.bool x4.2)) rfl rfl rfl rfl (by dsimp only [aput, List.set]) ?_
  refine w_seq ?_
  refine w_block ?_
  refine w_seq (w_region ?_)
  refine w_op (a := .raw (.bool x4.2)) rfl rfl rfl rfl (by dsimp only [aput, List.set]) ?_
  refine w_op (a := .raw (.bool (!x4.2))) rfl rfl rfl rfl (by dsimp only [aput, List.set]) ?_
  refine w_op (a := .raw (.bool (!x4.2))) rfl rfl rfl rfl (by dsimp only [aput, List.set]) ?_
  refine bif_e h (fun hc1 h => ?_) (fun hc1 h => ?_)
  ·
    refine w_condT hc1 rfl ?_
    refine w_seq (w_region ?_)
    refine w_op (a := .raw (.int .i64 0)) rfl rfl rfl rfl (by dsimp only [aput, List.set]) ?_
    exact end_pureF (fun (r : Int) => (.raw (.int .i64 r) : AV)) h (a := .raw (.int .i64 0)) rfl rfl rfl
  ·
    refine w_condF hc1 rfl ?_
    refine w_seq (w_region ?_)
    refine w_op (a := .agg (Enc.cells (a : BS))) rfl rfl rfl rfl (by dsimp only [aput, List.set]) ?_
    refine w_op (a := .raw (.int .u8 x4.1)) rfl rfl rfl rfl (by dsimp only [aput, List.set]) ?_
    obtain ⟨x5, hx5, h⟩ := bindE_e h
    refine w_callc (args' := [.agg (Enc.cells (a : BS)), .raw (.int .u8 x4.1)]) (r := .raw (.bool x5)) (has_sh a x4.1 x5 hx5) rfl rfl (stripL_cons (strip_c (clo_agg (Enc.clo _))) (stripL_cons rfl rfl)) (okTrimL_cons (okTrim_clo _ _ (clo_agg (Enc.clo _))) (okTrimL_cons rfl rfl)) (by dsimp only [aput, List.set]) ?_
    refine w_op (a := .raw (.bool x5)) rfl rfl rfl rfl (by dsimp only [aput, List.set]) ?_
    refine bif_e h (fun hc2 h => ?_) (fun hc2 h => ?_)
    ·
      refine w_condT hc2 rfl ?_
      refine w_seq (w_region ?_)
      refine w_op (a := .raw (.int .i64 (-1))) rfl rfl rfl rfl (by dsimp only [aput, List.set]) ?_
      exact end_pureF (fun (r : Int) => (.raw (.int .i64 r) : AV)) h (a := .raw (.int .i64 (-1))) rfl rfl rfl
    ·
      refine w_condF hc2 rfl ?_
      refine w_seq (w_region ?_)
      refine w_op (a := .raw (.int .i64 1)) rfl rfl rfl rfl (by dsimp only [aput, List.set]) ?_
      exact end_pureF (fun (r : Int) => (.raw (.int .i64 r) : AV)) h (a := .raw (.int .i64 1)) rfl rfl rfl
end Go.Ab
