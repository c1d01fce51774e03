/-
  The contract of reparteelaw01.SetsAlgebra.
-/
import Derived.Test.YtjmhbbbpjbgmjaaAlg
set_option linter.unusedSimpArgs false
set_option linter.unusedVariables false
namespace Go.Proofs.Ytjmhbbbpjbgmjaa
open Go.RowKit Go.Fwd Go.Shelf Go.Proofs

set_option maxRecDepth 100000 in
set_option maxHeartbeats 16000000 in
theorem algebra_any (A B C : BS) (x : Nat) (hx : x < 256) (w : World) : Calls Try.prog 5 #[sv A, sv B, sv C, .int .u8 x] w (Ret (.bool true) w) := by
  have eqS := eqSelf
  obtain ⟨wv, hwv⟩ : ∃ v, v = (A &&& ~~~B == 0#256) := ⟨_, rfl⟩
  have hW1 : ∀ W, Calls Try.prog 20 #[sv A, sv B] W (Ret (.bool wv) W) := fun W => by rw [hwv]; exact within_any A B W
  have heq7 : ∀ W : World, (Op.equalIn 10000 24 (.agg #[.int .u64 (wd (A ||| B) 0), .int .u64 (wd (A ||| B) 1), .int .u64 (wd (A ||| B) 2), .int .u64 (wd (A ||| B) 3)]) (.agg #[.int .u64 (wd B 0), .int .u64 (wd B 1), .int .u64 (wd B 2), .int .u64 (wd B 3)])).run Try.prog W = .ok wv W := fun W => by rw [eqIn24, sv_beq, alg_within, ← hwv]
  obtain ⟨mv, hmv⟩ : ∃ v, v = !(A &&& B == 0#256) := ⟨_, rfl⟩
  have hM1 : ∀ W, Calls Try.prog 21 #[sv A, sv B] W (Ret (.bool mv) W) := fun W => by rw [hmv]; exact meets_any A B W
  have hW2 : ∀ W, Calls Try.prog 20 #[sv A, sv (~~~B)] W (Ret (.bool (!mv)) W) := fun W => by
    have := within_any A (~~~B) W
    rw [alg8] at this; rw [hmv, Bool.not_not]; exact this
  clear hwv hmv
  have hcnt0 := alg_size A B
  have hS1 := size_any A
  have hS2 := size_any B
  have hS3 := size_any (A ||| B)
  have hS4 := size_any (A &&& B)
  have hl1 := bytesTo_len A 256
  have hl2 := bytesTo_len B 256
  have hl3 := bytesTo_len (A ||| B) 256
  have hl4 := bytesTo_len (A &&& B) 256
  simp only [bytesOf] at hcnt0 hS1 hS2 hS3 hS4
  generalize (bytesTo A 256).length = nA at *
  generalize (bytesTo B 256).length = nB at *
  generalize (bytesTo (A ||| B) 256).length = nU at *
  generalize (bytesTo (A &&& B) 256).length = nI at *
  obtain ⟨nT, hT⟩ : ∃ n : Int, n = (nA : Int) + (nB : Int) := ⟨_, rfl⟩
  have hadd1 : IntKind.i64.wrap ((nA : Int) + (nB : Int)) = nT := by rw [hT]; simp [IntKind.wrap, IntKind.bits, IntKind.signed]; omega
  have hadd2 : IntKind.i64.wrap ((nU : Int) + (nI : Int)) = nT := by rw [hT]; simp [IntKind.wrap, IntKind.bits, IntKind.signed]; omega
  clear hcnt0 hT hl1 hl2 hl3 hl4
  have hH1 := fun W => has_any A x W hx
  have hH2 := fun W => has_any (~~~A) x W hx
  have hH3 := fun W => has_any (A ||| B) x W hx
  have hH4 := fun W => has_any B x W hx
  have hW3 := within_any (ofS [x]) A
  rw [alg_of A x hx] at hW3
  rw [alg_has_not A x hx] at hH2
  rw [BitVec.getLsbD_or] at hH3
  have hofx : ∀ v W, SlAt 1 [.int .u8 (x : Int)] v W → Calls Try.prog 13 #[v] W (Ret (sv (ofS [x])) W) := fun v W h => of_any [x] (by simpa using hx) (by simp) v W h
  generalize B.getLsbD x = bb at *
  unfold sv
  go_enter Try.func5, Try.ntmps5
  go_wp2_with (go_at_call 10; refine (awake_any _).mono ?_; rintro e w1 ⟨rfl, hb1⟩)
  have hA : w1.heap[w.heap.size]? = some (.cells (sc A) 24 (0, 0)) := (hb1.block _ (by simp; omega)).trans ((Below.heap_alloc _ _ _ (by simp <;> omega)).trans ((Below.heap_alloc _ _ _ (by simp)).trans (heap_new _ _ _ rfl)))
  have hB : w1.heap[w.heap.size + 1]? = some (.cells (sc B) 24 (0, 0)) := (hb1.block _ (by simp)).trans ((Below.heap_alloc _ _ _ (by simp)).trans (heap_new _ _ _ (by simp)))
  have hC : w1.heap[w.heap.size + 1 + 1]? = some (.cells (sc C) 24 (0, 0)) := (hb1.block _ (by simp)).trans (heap_new _ _ _ (by simp))
  have hE : Ex w.heap.size w w1 := ((((Ex.refl _ _).alloc (Nat.le_refl _) _).alloc (by simp) _).alloc (by simp; omega) _).trans (hb1.mono (by simp; omega))
  clear hb1

  refine wp_region_slots 72 [(83, .bool false), (3, .int .u8 x), (4, .pointer (some ⟨w.heap.size, 0, none⟩)), (5, .pointer (some ⟨w.heap.size + 1, 0, none⟩)), (6, .pointer (some ⟨w.heap.size + 1 + 1, 0, none⟩))] (by kernel_rfl) (by kernel_rfl) (by simp) ?_ ?_
  rotate_left
  · skip
    refine fwd_opens [(7, 19), (16, 28), (29, 41), (42, 54), (57, 69)] [(3, .int .u8 x), (4, .pointer (some ⟨w.heap.size, 0, none⟩)), (5, .pointer (some ⟨w.heap.size + 1, 0, none⟩)), (6, .pointer (some ⟨w.heap.size + 1 + 1, 0, none⟩))] [(83, .bool false), (3, .int .u8 x), (4, .pointer (some ⟨w.heap.size, 0, none⟩)), (5, .pointer (some ⟨w.heap.size + 1, 0, none⟩)), (6, .pointer (some ⟨w.heap.size + 1 + 1, 0, none⟩))] (fun _ h => h) (by kernel_rfl) (by simp [Act.eval]) ?_
    intro ops a acc fin hD hN hfin
    simp only [List.forall_mem_cons] at hD hN
    obtain ⟨D7, D16, D29, D42, D57, -⟩ := hD
    obtain ⟨N3, N4, N5, N6, -⟩ := hN
    refine fwd_l rfl ?_ rfl ?_ hA Try.underlying24 rfl info24 ?_
    · exact trivial
    · rintro ρ W ⟨_, _, _, hr⟩
      simp [Op.operands, Call.operands, readsOf, All, env, Is, Act.eval, N3, N4, N5, N6] at hr
      exact hr
    refine fwd_l rfl ?_ rfl ?_ hB Try.underlying24 rfl info24 ?_
    · exact trivial
    · rintro ρ W ⟨_, _, _, hr⟩
      simp [Op.operands, Call.operands, readsOf, All, env, Is, Act.eval, N3, N4, N5, N6] at hr
      exact hr
    refine fwd_ce (e := sv (A ||| B)) rfl trivial ?_ ?_
    · rintro ρ W ⟨h1, h2, hW, hr⟩
      try simp [Op.operands, Call.operands, readsOf, All, env, Is, Act.eval, N3, N4, N5, N6] at hr
      refine ⟨16, #[sv A, sv B], ?_, or_any A B _⟩
      go_simp
      try first | rfl | exact ⟨rfl, rfl⟩
    refine fwd_l rfl ?_ rfl ?_ hB Try.underlying24 rfl info24 ?_
    · exact trivial
    · rintro ρ W ⟨_, _, _, hr⟩
      simp [Op.operands, Call.operands, readsOf, All, env, Is, Act.eval, N3, N4, N5, N6] at hr
      exact hr
    refine fwd_l rfl ?_ rfl ?_ hA Try.underlying24 rfl info24 ?_
    · exact trivial
    · rintro ρ W ⟨_, _, _, hr⟩
      simp [Op.operands, Call.operands, readsOf, All, env, Is, Act.eval, N3, N4, N5, N6] at hr
      exact hr
    refine fwd_ce (e := sv (B ||| A)) rfl trivial ?_ ?_
    · rintro ρ W ⟨h1, h2, hW, hr⟩
      try simp [Op.operands, Call.operands, readsOf, All, env, Is, Act.eval, N3, N4, N5, N6] at hr
      refine ⟨16, #[sv B, sv A], ?_, or_any B A _⟩
      go_simp
      try first | rfl | exact ⟨rfl, rfl⟩
    refine fwd_e (e := .bool false) rfl trivial ?_ ?_
    · rintro ρ W ⟨h1, h2, hW, hr⟩
      try simp [Op.operands, Call.operands, readsOf, All, env, Is, Act.eval, N3, N4, N5, N6] at hr
      rw [alg1 A B] at hr
      simp only [sv, sc] at hr
      go_simp
      try rfl
    refine fwd_e (e := .bool false) rfl trivial ?_ ?_
    · rintro ρ W ⟨h1, h2, hW, hr⟩
      try simp [Op.operands, Call.operands, readsOf, All, env, Is, Act.eval, N3, N4, N5, N6] at hr
      go_simp
      try rfl
    refine fwd_forget [(3, .int .u8 x), (4, .pointer (some ⟨w.heap.size, 0, none⟩)), (5, .pointer (some ⟨w.heap.size + 1, 0, none⟩)), (6, .pointer (some ⟨w.heap.size + 1 + 1, 0, none⟩)), (19, .bool false)] (by simp [env, N3, N4, N5, N6]) ?_
    clear N3 N4 N5 N6
    intro acc hN
    simp only [List.forall_mem_cons] at hN
    obtain ⟨N3, N4, N5, N6, N19, -⟩ := hN
    refine fwd_l rfl ?_ rfl ?_ hA Try.underlying24 rfl info24 ?_
    · exact ⟨_, D7, by rintro g W h; simp [env, Is, N3, N4, N5, N6, N19] at h; exact h⟩
    · rintro ρ W ⟨_, _, _, hr⟩
      simp [Op.operands, Call.operands, readsOf, All, env, Is, Act.eval, N3, N4, N5, N6, N19] at hr
      exact hr
    refine fwd_l rfl ?_ rfl ?_ hB Try.underlying24 rfl info24 ?_
    · exact ⟨_, D7, by rintro g W h; simp [env, Is, N3, N4, N5, N6, N19] at h; exact h⟩
    · rintro ρ W ⟨_, _, _, hr⟩
      simp [Op.operands, Call.operands, readsOf, All, env, Is, Act.eval, N3, N4, N5, N6, N19] at hr
      exact hr
    refine fwd_ce (e := sv (A &&& B)) rfl ⟨_, D7, by rintro g W h; simp [env, Is, N3, N4, N5, N6, N19] at h; exact h⟩ ?_ ?_
    · rintro ρ W ⟨h1, h2, hW, hr⟩
      try simp [Op.operands, Call.operands, readsOf, All, env, Is, Act.eval, N3, N4, N5, N6, N19] at hr
      refine ⟨17, #[sv A, sv B], ?_, and_any A B _⟩
      go_simp
      try first | rfl | exact ⟨rfl, rfl⟩
    refine fwd_l rfl ?_ rfl ?_ hB Try.underlying24 rfl info24 ?_
    · exact ⟨_, D7, by rintro g W h; simp [env, Is, N3, N4, N5, N6, N19] at h; exact h⟩
    · rintro ρ W ⟨_, _, _, hr⟩
      simp [Op.operands, Call.operands, readsOf, All, env, Is, Act.eval, N3, N4, N5, N6, N19] at hr
      exact hr
    refine fwd_l rfl ?_ rfl ?_ hA Try.underlying24 rfl info24 ?_
    · exact ⟨_, D7, by rintro g W h; simp [env, Is, N3, N4, N5, N6, N19] at h; exact h⟩
    · rintro ρ W ⟨_, _, _, hr⟩
      simp [Op.operands, Call.operands, readsOf, All, env, Is, Act.eval, N3, N4, N5, N6, N19] at hr
      exact hr
    refine fwd_ce (e := sv (B &&& A)) rfl ⟨_, D7, by rintro g W h; simp [env, Is, N3, N4, N5, N6, N19] at h; exact h⟩ ?_ ?_
    · rintro ρ W ⟨h1, h2, hW, hr⟩
      try simp [Op.operands, Call.operands, readsOf, All, env, Is, Act.eval, N3, N4, N5, N6, N19] at hr
      refine ⟨17, #[sv B, sv A], ?_, and_any B A _⟩
      go_simp
      try first | rfl | exact ⟨rfl, rfl⟩
    refine fwd_e (e := .bool false) rfl ⟨_, D7, by rintro g W h; simp [env, Is, N3, N4, N5, N6, N19] at h; exact h⟩ ?_ ?_
    · rintro ρ W ⟨h1, h2, hW, hr⟩
      try simp [Op.operands, Call.operands, readsOf, All, env, Is, Act.eval, N3, N4, N5, N6, N19] at hr
      rw [alg2 A B] at hr
      simp only [sv, sc] at hr
      go_simp
      try rfl
    refine fwd_e (e := .bool false) rfl trivial ?_ ?_
    · rintro ρ W ⟨h1, h2, hW, hr⟩
      try simp [Op.operands, Call.operands, readsOf, All, env, Is, Act.eval, N3, N4, N5, N6, N19] at hr
      go_simp
      try rfl
    refine fwd_e (e := .bool false) rfl trivial ?_ ?_
    · rintro ρ W ⟨h1, h2, hW, hr⟩
      try simp [Op.operands, Call.operands, readsOf, All, env, Is, Act.eval, N3, N4, N5, N6, N19] at hr
      go_simp
      try rfl
    refine fwd_forget [(3, .int .u8 x), (4, .pointer (some ⟨w.heap.size, 0, none⟩)), (5, .pointer (some ⟨w.heap.size + 1, 0, none⟩)), (6, .pointer (some ⟨w.heap.size + 1 + 1, 0, none⟩)), (28, .bool false)] (by simp [env, N3, N4, N5, N6, N19]) ?_
    clear N3 N4 N5 N6 N19
    intro acc hN
    simp only [List.forall_mem_cons] at hN
    obtain ⟨N3, N4, N5, N6, N28, -⟩ := hN
    refine fwd_l rfl ?_ rfl ?_ hA Try.underlying24 rfl info24 ?_
    · exact ⟨_, D16, by rintro g W h; simp [env, Is, N3, N4, N5, N6, N28] at h; exact h⟩
    · rintro ρ W ⟨_, _, _, hr⟩
      simp [Op.operands, Call.operands, readsOf, All, env, Is, Act.eval, N3, N4, N5, N6, N28] at hr
      exact hr
    refine fwd_l rfl ?_ rfl ?_ hB Try.underlying24 rfl info24 ?_
    · exact ⟨_, D16, by rintro g W h; simp [env, Is, N3, N4, N5, N6, N28] at h; exact h⟩
    · rintro ρ W ⟨_, _, _, hr⟩
      simp [Op.operands, Call.operands, readsOf, All, env, Is, Act.eval, N3, N4, N5, N6, N28] at hr
      exact hr
    refine fwd_l rfl ?_ rfl ?_ hC Try.underlying24 rfl info24 ?_
    · exact ⟨_, D16, by rintro g W h; simp [env, Is, N3, N4, N5, N6, N28] at h; exact h⟩
    · rintro ρ W ⟨_, _, _, hr⟩
      simp [Op.operands, Call.operands, readsOf, All, env, Is, Act.eval, N3, N4, N5, N6, N28] at hr
      exact hr
    refine fwd_ce (e := sv (B ||| C)) rfl ⟨_, D16, by rintro g W h; simp [env, Is, N3, N4, N5, N6, N28] at h; exact h⟩ ?_ ?_
    · rintro ρ W ⟨h1, h2, hW, hr⟩
      try simp [Op.operands, Call.operands, readsOf, All, env, Is, Act.eval, N3, N4, N5, N6, N28] at hr
      refine ⟨16, #[sv B, sv C], ?_, or_any B C _⟩
      go_simp
      try first | rfl | exact ⟨rfl, rfl⟩
    refine fwd_ce (e := sv (A ||| (B ||| C))) rfl ⟨_, D16, by rintro g W h; simp [env, Is, N3, N4, N5, N6, N28] at h; exact h⟩ ?_ ?_
    · rintro ρ W ⟨h1, h2, hW, hr⟩
      try simp [Op.operands, Call.operands, readsOf, All, env, Is, Act.eval, N3, N4, N5, N6, N28] at hr
      refine ⟨16, #[sv A, sv (B ||| C)], ?_, or_any A (B ||| C) _⟩
      go_simp
      try first | rfl | exact ⟨rfl, rfl⟩
    refine fwd_l rfl ?_ rfl ?_ hA Try.underlying24 rfl info24 ?_
    · exact ⟨_, D16, by rintro g W h; simp [env, Is, N3, N4, N5, N6, N28] at h; exact h⟩
    · rintro ρ W ⟨_, _, _, hr⟩
      simp [Op.operands, Call.operands, readsOf, All, env, Is, Act.eval, N3, N4, N5, N6, N28] at hr
      exact hr
    refine fwd_l rfl ?_ rfl ?_ hB Try.underlying24 rfl info24 ?_
    · exact ⟨_, D16, by rintro g W h; simp [env, Is, N3, N4, N5, N6, N28] at h; exact h⟩
    · rintro ρ W ⟨_, _, _, hr⟩
      simp [Op.operands, Call.operands, readsOf, All, env, Is, Act.eval, N3, N4, N5, N6, N28] at hr
      exact hr
    refine fwd_ce (e := sv (A ||| B)) rfl ⟨_, D16, by rintro g W h; simp [env, Is, N3, N4, N5, N6, N28] at h; exact h⟩ ?_ ?_
    · rintro ρ W ⟨h1, h2, hW, hr⟩
      try simp [Op.operands, Call.operands, readsOf, All, env, Is, Act.eval, N3, N4, N5, N6, N28] at hr
      refine ⟨16, #[sv A, sv B], ?_, or_any A B _⟩
      go_simp
      try first | rfl | exact ⟨rfl, rfl⟩
    refine fwd_l rfl ?_ rfl ?_ hC Try.underlying24 rfl info24 ?_
    · exact ⟨_, D16, by rintro g W h; simp [env, Is, N3, N4, N5, N6, N28] at h; exact h⟩
    · rintro ρ W ⟨_, _, _, hr⟩
      simp [Op.operands, Call.operands, readsOf, All, env, Is, Act.eval, N3, N4, N5, N6, N28] at hr
      exact hr
    refine fwd_ce (e := sv ((A ||| B) ||| C)) rfl ⟨_, D16, by rintro g W h; simp [env, Is, N3, N4, N5, N6, N28] at h; exact h⟩ ?_ ?_
    · rintro ρ W ⟨h1, h2, hW, hr⟩
      try simp [Op.operands, Call.operands, readsOf, All, env, Is, Act.eval, N3, N4, N5, N6, N28] at hr
      refine ⟨16, #[sv (A ||| B), sv C], ?_, or_any (A ||| B) C _⟩
      go_simp
      try first | rfl | exact ⟨rfl, rfl⟩
    refine fwd_e (e := .bool false) rfl ⟨_, D16, by rintro g W h; simp [env, Is, N3, N4, N5, N6, N28] at h; exact h⟩ ?_ ?_
    · rintro ρ W ⟨h1, h2, hW, hr⟩
      try simp [Op.operands, Call.operands, readsOf, All, env, Is, Act.eval, N3, N4, N5, N6, N28] at hr
      rw [alg3 A B C] at hr
      simp only [sv, sc] at hr
      go_simp
      try rfl
    refine fwd_e (e := .bool false) rfl trivial ?_ ?_
    · rintro ρ W ⟨h1, h2, hW, hr⟩
      try simp [Op.operands, Call.operands, readsOf, All, env, Is, Act.eval, N3, N4, N5, N6, N28] at hr
      go_simp
      try rfl
    refine fwd_e (e := .bool false) rfl trivial ?_ ?_
    · rintro ρ W ⟨h1, h2, hW, hr⟩
      try simp [Op.operands, Call.operands, readsOf, All, env, Is, Act.eval, N3, N4, N5, N6, N28] at hr
      go_simp
      try rfl
    refine fwd_forget [(3, .int .u8 x), (4, .pointer (some ⟨w.heap.size, 0, none⟩)), (5, .pointer (some ⟨w.heap.size + 1, 0, none⟩)), (6, .pointer (some ⟨w.heap.size + 1 + 1, 0, none⟩)), (41, .bool false)] (by simp [env, N3, N4, N5, N6, N28]) ?_
    clear N3 N4 N5 N6 N28
    intro acc hN
    simp only [List.forall_mem_cons] at hN
    obtain ⟨N3, N4, N5, N6, N41, -⟩ := hN
    refine fwd_l rfl ?_ rfl ?_ hA Try.underlying24 rfl info24 ?_
    · exact ⟨_, D29, by rintro g W h; simp [env, Is, N3, N4, N5, N6, N41] at h; exact h⟩
    · rintro ρ W ⟨_, _, _, hr⟩
      simp [Op.operands, Call.operands, readsOf, All, env, Is, Act.eval, N3, N4, N5, N6, N41] at hr
      exact hr
    refine fwd_l rfl ?_ rfl ?_ hB Try.underlying24 rfl info24 ?_
    · exact ⟨_, D29, by rintro g W h; simp [env, Is, N3, N4, N5, N6, N41] at h; exact h⟩
    · rintro ρ W ⟨_, _, _, hr⟩
      simp [Op.operands, Call.operands, readsOf, All, env, Is, Act.eval, N3, N4, N5, N6, N41] at hr
      exact hr
    refine fwd_l rfl ?_ rfl ?_ hC Try.underlying24 rfl info24 ?_
    · exact ⟨_, D29, by rintro g W h; simp [env, Is, N3, N4, N5, N6, N41] at h; exact h⟩
    · rintro ρ W ⟨_, _, _, hr⟩
      simp [Op.operands, Call.operands, readsOf, All, env, Is, Act.eval, N3, N4, N5, N6, N41] at hr
      exact hr
    refine fwd_ce (e := sv (B &&& C)) rfl ⟨_, D29, by rintro g W h; simp [env, Is, N3, N4, N5, N6, N41] at h; exact h⟩ ?_ ?_
    · rintro ρ W ⟨h1, h2, hW, hr⟩
      try simp [Op.operands, Call.operands, readsOf, All, env, Is, Act.eval, N3, N4, N5, N6, N41] at hr
      refine ⟨17, #[sv B, sv C], ?_, and_any B C _⟩
      go_simp
      try first | rfl | exact ⟨rfl, rfl⟩
    refine fwd_ce (e := sv (A &&& (B &&& C))) rfl ⟨_, D29, by rintro g W h; simp [env, Is, N3, N4, N5, N6, N41] at h; exact h⟩ ?_ ?_
    · rintro ρ W ⟨h1, h2, hW, hr⟩
      try simp [Op.operands, Call.operands, readsOf, All, env, Is, Act.eval, N3, N4, N5, N6, N41] at hr
      refine ⟨17, #[sv A, sv (B &&& C)], ?_, and_any A (B &&& C) _⟩
      go_simp
      try first | rfl | exact ⟨rfl, rfl⟩
    refine fwd_l rfl ?_ rfl ?_ hA Try.underlying24 rfl info24 ?_
    · exact ⟨_, D29, by rintro g W h; simp [env, Is, N3, N4, N5, N6, N41] at h; exact h⟩
    · rintro ρ W ⟨_, _, _, hr⟩
      simp [Op.operands, Call.operands, readsOf, All, env, Is, Act.eval, N3, N4, N5, N6, N41] at hr
      exact hr
    refine fwd_l rfl ?_ rfl ?_ hB Try.underlying24 rfl info24 ?_
    · exact ⟨_, D29, by rintro g W h; simp [env, Is, N3, N4, N5, N6, N41] at h; exact h⟩
    · rintro ρ W ⟨_, _, _, hr⟩
      simp [Op.operands, Call.operands, readsOf, All, env, Is, Act.eval, N3, N4, N5, N6, N41] at hr
      exact hr
    refine fwd_ce (e := sv (A &&& B)) rfl ⟨_, D29, by rintro g W h; simp [env, Is, N3, N4, N5, N6, N41] at h; exact h⟩ ?_ ?_
    · rintro ρ W ⟨h1, h2, hW, hr⟩
      try simp [Op.operands, Call.operands, readsOf, All, env, Is, Act.eval, N3, N4, N5, N6, N41] at hr
      refine ⟨17, #[sv A, sv B], ?_, and_any A B _⟩
      go_simp
      try first | rfl | exact ⟨rfl, rfl⟩
    refine fwd_l rfl ?_ rfl ?_ hC Try.underlying24 rfl info24 ?_
    · exact ⟨_, D29, by rintro g W h; simp [env, Is, N3, N4, N5, N6, N41] at h; exact h⟩
    · rintro ρ W ⟨_, _, _, hr⟩
      simp [Op.operands, Call.operands, readsOf, All, env, Is, Act.eval, N3, N4, N5, N6, N41] at hr
      exact hr
    refine fwd_ce (e := sv ((A &&& B) &&& C)) rfl ⟨_, D29, by rintro g W h; simp [env, Is, N3, N4, N5, N6, N41] at h; exact h⟩ ?_ ?_
    · rintro ρ W ⟨h1, h2, hW, hr⟩
      try simp [Op.operands, Call.operands, readsOf, All, env, Is, Act.eval, N3, N4, N5, N6, N41] at hr
      refine ⟨17, #[sv (A &&& B), sv C], ?_, and_any (A &&& B) C _⟩
      go_simp
      try first | rfl | exact ⟨rfl, rfl⟩
    refine fwd_e (e := .bool false) rfl ⟨_, D29, by rintro g W h; simp [env, Is, N3, N4, N5, N6, N41] at h; exact h⟩ ?_ ?_
    · rintro ρ W ⟨h1, h2, hW, hr⟩
      try simp [Op.operands, Call.operands, readsOf, All, env, Is, Act.eval, N3, N4, N5, N6, N41] at hr
      rw [alg4 A B C] at hr
      simp only [sv, sc] at hr
      go_simp
      try rfl
    refine fwd_e (e := .bool false) rfl trivial ?_ ?_
    · rintro ρ W ⟨h1, h2, hW, hr⟩
      try simp [Op.operands, Call.operands, readsOf, All, env, Is, Act.eval, N3, N4, N5, N6, N41] at hr
      go_simp
      try rfl
    refine fwd_e (e := .bool false) rfl trivial ?_ ?_
    · rintro ρ W ⟨h1, h2, hW, hr⟩
      try simp [Op.operands, Call.operands, readsOf, All, env, Is, Act.eval, N3, N4, N5, N6, N41] at hr
      go_simp
      try rfl
    refine fwd_forget [(3, .int .u8 x), (4, .pointer (some ⟨w.heap.size, 0, none⟩)), (5, .pointer (some ⟨w.heap.size + 1, 0, none⟩)), (6, .pointer (some ⟨w.heap.size + 1 + 1, 0, none⟩)), (54, .bool false)] (by simp [env, N3, N4, N5, N6, N41]) ?_
    clear N3 N4 N5 N6 N41
    intro acc hN
    simp only [List.forall_mem_cons] at hN
    obtain ⟨N3, N4, N5, N6, N54, -⟩ := hN
    refine fwd_l rfl ?_ rfl ?_ hA Try.underlying24 rfl info24 ?_
    · exact ⟨_, D42, by rintro g W h; simp [env, Is, N3, N4, N5, N6, N54] at h; exact h⟩
    · rintro ρ W ⟨_, _, _, hr⟩
      simp [Op.operands, Call.operands, readsOf, All, env, Is, Act.eval, N3, N4, N5, N6, N54] at hr
      exact hr
    refine fwd_l rfl ?_ rfl ?_ hB Try.underlying24 rfl info24 ?_
    · exact ⟨_, D42, by rintro g W h; simp [env, Is, N3, N4, N5, N6, N54] at h; exact h⟩
    · rintro ρ W ⟨_, _, _, hr⟩
      simp [Op.operands, Call.operands, readsOf, All, env, Is, Act.eval, N3, N4, N5, N6, N54] at hr
      exact hr
    refine fwd_l rfl ?_ rfl ?_ hC Try.underlying24 rfl info24 ?_
    · exact ⟨_, D42, by rintro g W h; simp [env, Is, N3, N4, N5, N6, N54] at h; exact h⟩
    · rintro ρ W ⟨_, _, _, hr⟩
      simp [Op.operands, Call.operands, readsOf, All, env, Is, Act.eval, N3, N4, N5, N6, N54] at hr
      exact hr
    refine fwd_ce (e := sv (B ||| C)) rfl ⟨_, D42, by rintro g W h; simp [env, Is, N3, N4, N5, N6, N54] at h; exact h⟩ ?_ ?_
    · rintro ρ W ⟨h1, h2, hW, hr⟩
      try simp [Op.operands, Call.operands, readsOf, All, env, Is, Act.eval, N3, N4, N5, N6, N54] at hr
      refine ⟨16, #[sv B, sv C], ?_, or_any B C _⟩
      go_simp
      try first | rfl | exact ⟨rfl, rfl⟩
    refine fwd_ce (e := sv (A &&& (B ||| C))) rfl ⟨_, D42, by rintro g W h; simp [env, Is, N3, N4, N5, N6, N54] at h; exact h⟩ ?_ ?_
    · rintro ρ W ⟨h1, h2, hW, hr⟩
      try simp [Op.operands, Call.operands, readsOf, All, env, Is, Act.eval, N3, N4, N5, N6, N54] at hr
      refine ⟨17, #[sv A, sv (B ||| C)], ?_, and_any A (B ||| C) _⟩
      go_simp
      try first | rfl | exact ⟨rfl, rfl⟩
    refine fwd_l rfl ?_ rfl ?_ hA Try.underlying24 rfl info24 ?_
    · exact ⟨_, D42, by rintro g W h; simp [env, Is, N3, N4, N5, N6, N54] at h; exact h⟩
    · rintro ρ W ⟨_, _, _, hr⟩
      simp [Op.operands, Call.operands, readsOf, All, env, Is, Act.eval, N3, N4, N5, N6, N54] at hr
      exact hr
    refine fwd_l rfl ?_ rfl ?_ hB Try.underlying24 rfl info24 ?_
    · exact ⟨_, D42, by rintro g W h; simp [env, Is, N3, N4, N5, N6, N54] at h; exact h⟩
    · rintro ρ W ⟨_, _, _, hr⟩
      simp [Op.operands, Call.operands, readsOf, All, env, Is, Act.eval, N3, N4, N5, N6, N54] at hr
      exact hr
    refine fwd_ce (e := sv (A &&& B)) rfl ⟨_, D42, by rintro g W h; simp [env, Is, N3, N4, N5, N6, N54] at h; exact h⟩ ?_ ?_
    · rintro ρ W ⟨h1, h2, hW, hr⟩
      try simp [Op.operands, Call.operands, readsOf, All, env, Is, Act.eval, N3, N4, N5, N6, N54] at hr
      refine ⟨17, #[sv A, sv B], ?_, and_any A B _⟩
      go_simp
      try first | rfl | exact ⟨rfl, rfl⟩
    refine fwd_l rfl ?_ rfl ?_ hA Try.underlying24 rfl info24 ?_
    · exact ⟨_, D42, by rintro g W h; simp [env, Is, N3, N4, N5, N6, N54] at h; exact h⟩
    · rintro ρ W ⟨_, _, _, hr⟩
      simp [Op.operands, Call.operands, readsOf, All, env, Is, Act.eval, N3, N4, N5, N6, N54] at hr
      exact hr
    refine fwd_l rfl ?_ rfl ?_ hC Try.underlying24 rfl info24 ?_
    · exact ⟨_, D42, by rintro g W h; simp [env, Is, N3, N4, N5, N6, N54] at h; exact h⟩
    · rintro ρ W ⟨_, _, _, hr⟩
      simp [Op.operands, Call.operands, readsOf, All, env, Is, Act.eval, N3, N4, N5, N6, N54] at hr
      exact hr
    refine fwd_ce (e := sv (A &&& C)) rfl ⟨_, D42, by rintro g W h; simp [env, Is, N3, N4, N5, N6, N54] at h; exact h⟩ ?_ ?_
    · rintro ρ W ⟨h1, h2, hW, hr⟩
      try simp [Op.operands, Call.operands, readsOf, All, env, Is, Act.eval, N3, N4, N5, N6, N54] at hr
      refine ⟨17, #[sv A, sv C], ?_, and_any A C _⟩
      go_simp
      try first | rfl | exact ⟨rfl, rfl⟩
    refine fwd_ce (e := sv ((A &&& B) ||| (A &&& C))) rfl ⟨_, D42, by rintro g W h; simp [env, Is, N3, N4, N5, N6, N54] at h; exact h⟩ ?_ ?_
    · rintro ρ W ⟨h1, h2, hW, hr⟩
      try simp [Op.operands, Call.operands, readsOf, All, env, Is, Act.eval, N3, N4, N5, N6, N54] at hr
      refine ⟨16, #[sv (A &&& B), sv (A &&& C)], ?_, or_any (A &&& B) (A &&& C) _⟩
      go_simp
      try first | rfl | exact ⟨rfl, rfl⟩
    refine fwd_e (e := .bool false) rfl ⟨_, D42, by rintro g W h; simp [env, Is, N3, N4, N5, N6, N54] at h; exact h⟩ ?_ ?_
    · rintro ρ W ⟨h1, h2, hW, hr⟩
      try simp [Op.operands, Call.operands, readsOf, All, env, Is, Act.eval, N3, N4, N5, N6, N54] at hr
      rw [alg5 A B C] at hr
      simp only [sv, sc] at hr
      go_simp
      try rfl
    refine fwd_e (e := .bool false) rfl trivial ?_ ?_
    · rintro ρ W ⟨h1, h2, hW, hr⟩
      try simp [Op.operands, Call.operands, readsOf, All, env, Is, Act.eval, N3, N4, N5, N6, N54] at hr
      go_simp
      try rfl
    refine fwd_e (e := .bool false) rfl trivial ?_ ?_
    · rintro ρ W ⟨h1, h2, hW, hr⟩
      try simp [Op.operands, Call.operands, readsOf, All, env, Is, Act.eval, N3, N4, N5, N6, N54] at hr
      go_simp
      try rfl
    refine fwd_forget [(3, .int .u8 x), (4, .pointer (some ⟨w.heap.size, 0, none⟩)), (5, .pointer (some ⟨w.heap.size + 1, 0, none⟩)), (6, .pointer (some ⟨w.heap.size + 1 + 1, 0, none⟩)), (69, .bool false)] (by simp [env, N3, N4, N5, N6, N54]) ?_
    clear N3 N4 N5 N6 N54
    intro acc hN
    simp only [List.forall_mem_cons] at hN
    obtain ⟨N3, N4, N5, N6, N69, -⟩ := hN
    refine fwd_l rfl ?_ rfl ?_ hA Try.underlying24 rfl info24 ?_
    · exact ⟨_, D57, by rintro g W h; simp [env, Is, N3, N4, N5, N6, N69] at h; exact h⟩
    · rintro ρ W ⟨_, _, _, hr⟩
      simp [Op.operands, Call.operands, readsOf, All, env, Is, Act.eval, N3, N4, N5, N6, N69] at hr
      exact hr
    refine fwd_l rfl ?_ rfl ?_ hB Try.underlying24 rfl info24 ?_
    · exact ⟨_, D57, by rintro g W h; simp [env, Is, N3, N4, N5, N6, N69] at h; exact h⟩
    · rintro ρ W ⟨_, _, _, hr⟩
      simp [Op.operands, Call.operands, readsOf, All, env, Is, Act.eval, N3, N4, N5, N6, N69] at hr
      exact hr
    refine fwd_l rfl ?_ rfl ?_ hC Try.underlying24 rfl info24 ?_
    · exact ⟨_, D57, by rintro g W h; simp [env, Is, N3, N4, N5, N6, N69] at h; exact h⟩
    · rintro ρ W ⟨_, _, _, hr⟩
      simp [Op.operands, Call.operands, readsOf, All, env, Is, Act.eval, N3, N4, N5, N6, N69] at hr
      exact hr
    refine fwd_ce (e := sv (B &&& C)) rfl ⟨_, D57, by rintro g W h; simp [env, Is, N3, N4, N5, N6, N69] at h; exact h⟩ ?_ ?_
    · rintro ρ W ⟨h1, h2, hW, hr⟩
      try simp [Op.operands, Call.operands, readsOf, All, env, Is, Act.eval, N3, N4, N5, N6, N69] at hr
      refine ⟨17, #[sv B, sv C], ?_, and_any B C _⟩
      go_simp
      try first | rfl | exact ⟨rfl, rfl⟩
    refine fwd_ce (e := sv (A ||| (B &&& C))) rfl ⟨_, D57, by rintro g W h; simp [env, Is, N3, N4, N5, N6, N69] at h; exact h⟩ ?_ ?_
    · rintro ρ W ⟨h1, h2, hW, hr⟩
      try simp [Op.operands, Call.operands, readsOf, All, env, Is, Act.eval, N3, N4, N5, N6, N69] at hr
      refine ⟨16, #[sv A, sv (B &&& C)], ?_, or_any A (B &&& C) _⟩
      go_simp
      try first | rfl | exact ⟨rfl, rfl⟩
    refine fwd_l rfl ?_ rfl ?_ hA Try.underlying24 rfl info24 ?_
    · exact ⟨_, D57, by rintro g W h; simp [env, Is, N3, N4, N5, N6, N69] at h; exact h⟩
    · rintro ρ W ⟨_, _, _, hr⟩
      simp [Op.operands, Call.operands, readsOf, All, env, Is, Act.eval, N3, N4, N5, N6, N69] at hr
      exact hr
    refine fwd_l rfl ?_ rfl ?_ hB Try.underlying24 rfl info24 ?_
    · exact ⟨_, D57, by rintro g W h; simp [env, Is, N3, N4, N5, N6, N69] at h; exact h⟩
    · rintro ρ W ⟨_, _, _, hr⟩
      simp [Op.operands, Call.operands, readsOf, All, env, Is, Act.eval, N3, N4, N5, N6, N69] at hr
      exact hr
    refine fwd_ce (e := sv (A ||| B)) rfl ⟨_, D57, by rintro g W h; simp [env, Is, N3, N4, N5, N6, N69] at h; exact h⟩ ?_ ?_
    · rintro ρ W ⟨h1, h2, hW, hr⟩
      try simp [Op.operands, Call.operands, readsOf, All, env, Is, Act.eval, N3, N4, N5, N6, N69] at hr
      refine ⟨16, #[sv A, sv B], ?_, or_any A B _⟩
      go_simp
      try first | rfl | exact ⟨rfl, rfl⟩
    refine fwd_l rfl ?_ rfl ?_ hA Try.underlying24 rfl info24 ?_
    · exact ⟨_, D57, by rintro g W h; simp [env, Is, N3, N4, N5, N6, N69] at h; exact h⟩
    · rintro ρ W ⟨_, _, _, hr⟩
      simp [Op.operands, Call.operands, readsOf, All, env, Is, Act.eval, N3, N4, N5, N6, N69] at hr
      exact hr
    refine fwd_l rfl ?_ rfl ?_ hC Try.underlying24 rfl info24 ?_
    · exact ⟨_, D57, by rintro g W h; simp [env, Is, N3, N4, N5, N6, N69] at h; exact h⟩
    · rintro ρ W ⟨_, _, _, hr⟩
      simp [Op.operands, Call.operands, readsOf, All, env, Is, Act.eval, N3, N4, N5, N6, N69] at hr
      exact hr
    refine fwd_ce (e := sv (A ||| C)) rfl ⟨_, D57, by rintro g W h; simp [env, Is, N3, N4, N5, N6, N69] at h; exact h⟩ ?_ ?_
    · rintro ρ W ⟨h1, h2, hW, hr⟩
      try simp [Op.operands, Call.operands, readsOf, All, env, Is, Act.eval, N3, N4, N5, N6, N69] at hr
      refine ⟨16, #[sv A, sv C], ?_, or_any A C _⟩
      go_simp
      try first | rfl | exact ⟨rfl, rfl⟩
    refine fwd_ce (e := sv ((A ||| B) &&& (A ||| C))) rfl ⟨_, D57, by rintro g W h; simp [env, Is, N3, N4, N5, N6, N69] at h; exact h⟩ ?_ ?_
    · rintro ρ W ⟨h1, h2, hW, hr⟩
      try simp [Op.operands, Call.operands, readsOf, All, env, Is, Act.eval, N3, N4, N5, N6, N69] at hr
      refine ⟨17, #[sv (A ||| B), sv (A ||| C)], ?_, and_any (A ||| B) (A ||| C) _⟩
      go_simp
      try first | rfl | exact ⟨rfl, rfl⟩
    refine fwd_e (e := .bool false) rfl ⟨_, D57, by rintro g W h; simp [env, Is, N3, N4, N5, N6, N69] at h; exact h⟩ ?_ ?_
    · rintro ρ W ⟨h1, h2, hW, hr⟩
      try simp [Op.operands, Call.operands, readsOf, All, env, Is, Act.eval, N3, N4, N5, N6, N69] at hr
      rw [alg6 A B C] at hr
      simp only [sv, sc] at hr
      go_simp
      try rfl
    refine fwd_e (e := .bool false) rfl trivial ?_ ?_
    · rintro ρ W ⟨h1, h2, hW, hr⟩
      try simp [Op.operands, Call.operands, readsOf, All, env, Is, Act.eval, N3, N4, N5, N6, N69] at hr
      go_simp
      try rfl
    refine fwd_nil (hfin _ ?_)
    simp [env, N3, N4, N5, N6, N69]
  intro a2 w2 ha2 hd2 hs2 hg2
  simp only [List.forall_mem_cons] at hs2
  obtain ⟨ec, e3, e4, e5, e6, -⟩ := hs2
  have hsz : a2.tmps.size = 199 := by simpa using ha2
  have hdf : a2.defers = [] := hd2
  have hA := (hg2.block _ (Array.getElem?_eq_some_iff.1 hA).1).trans hA
  have hB := (hg2.block _ (Array.getElem?_eq_some_iff.1 hB).1).trans hB
  have hC := (hg2.block _ (Array.getElem?_eq_some_iff.1 hC).1).trans hC
  have hE := hE.trans (Ex.mono hg2 hE.size)
  show wpList _ _ _ ([] : List Oper) a2 w2
  go_wp2
  refine wp_cond_false ec ?_
  go_wp2_with fail
  refine wp_region_slots 43 [(126, .bool false), (3, .int .u8 x), (4, .pointer (some ⟨w.heap.size, 0, none⟩)), (5, .pointer (some ⟨w.heap.size + 1, 0, none⟩)), (6, .pointer (some ⟨w.heap.size + 1 + 1, 0, none⟩))] (by kernel_rfl) (by rw [hsz]; kernel_rfl) (by simp [hsz]) ?_ ?_
  rotate_left
  · skip
    refine fwd_opens [(10, 94), (17, 101), (25, 109), (33, 117)] [(3, .int .u8 x), (4, .pointer (some ⟨w.heap.size, 0, none⟩)), (5, .pointer (some ⟨w.heap.size + 1, 0, none⟩)), (6, .pointer (some ⟨w.heap.size + 1 + 1, 0, none⟩))] [(126, .bool false), (3, .int .u8 x), (4, .pointer (some ⟨w.heap.size, 0, none⟩)), (5, .pointer (some ⟨w.heap.size + 1, 0, none⟩)), (6, .pointer (some ⟨w.heap.size + 1 + 1, 0, none⟩))] (fun _ h => h) (by kernel_rfl) (by simp [e3, e4, e5, e6]) ?_
    intro ops a acc fin hD hN hfin
    simp only [List.forall_mem_cons] at hD hN
    obtain ⟨D10, D17, D25, D33, -⟩ := hD
    obtain ⟨N3, N4, N5, N6, -⟩ := hN
    refine fwd_l rfl ?_ rfl ?_ hA Try.underlying24 rfl info24 ?_
    · exact trivial
    · rintro ρ W ⟨_, _, _, hr⟩
      simp [Op.operands, Call.operands, readsOf, All, env, Is, Act.eval, N3, N4, N5, N6] at hr
      exact hr
    refine fwd_l rfl ?_ rfl ?_ hB Try.underlying24 rfl info24 ?_
    · exact trivial
    · rintro ρ W ⟨_, _, _, hr⟩
      simp [Op.operands, Call.operands, readsOf, All, env, Is, Act.eval, N3, N4, N5, N6] at hr
      exact hr
    refine fwd_ce (e := sv (A ||| B)) rfl trivial ?_ ?_
    · rintro ρ W ⟨h1, h2, hW, hr⟩
      try simp [Op.operands, Call.operands, readsOf, All, env, Is, Act.eval, N3, N4, N5, N6] at hr
      refine ⟨16, #[sv A, sv B], ?_, or_any A B _⟩
      go_simp
      try first | rfl | exact ⟨rfl, rfl⟩
    refine fwd_ce (e := sv (~~~(A ||| B))) rfl trivial ?_ ?_
    · rintro ρ W ⟨h1, h2, hW, hr⟩
      try simp [Op.operands, Call.operands, readsOf, All, env, Is, Act.eval, N3, N4, N5, N6] at hr
      refine ⟨18, #[sv (A ||| B)], ?_, not_any (A ||| B) _⟩
      go_simp
      try first | rfl | exact ⟨rfl, rfl⟩
    refine fwd_l rfl ?_ rfl ?_ hA Try.underlying24 rfl info24 ?_
    · exact trivial
    · rintro ρ W ⟨_, _, _, hr⟩
      simp [Op.operands, Call.operands, readsOf, All, env, Is, Act.eval, N3, N4, N5, N6] at hr
      exact hr
    refine fwd_ce (e := sv (~~~A)) rfl trivial ?_ ?_
    · rintro ρ W ⟨h1, h2, hW, hr⟩
      try simp [Op.operands, Call.operands, readsOf, All, env, Is, Act.eval, N3, N4, N5, N6] at hr
      refine ⟨18, #[sv A], ?_, not_any A _⟩
      go_simp
      try first | rfl | exact ⟨rfl, rfl⟩
    refine fwd_l rfl ?_ rfl ?_ hB Try.underlying24 rfl info24 ?_
    · exact trivial
    · rintro ρ W ⟨_, _, _, hr⟩
      simp [Op.operands, Call.operands, readsOf, All, env, Is, Act.eval, N3, N4, N5, N6] at hr
      exact hr
    refine fwd_ce (e := sv (~~~B)) rfl trivial ?_ ?_
    · rintro ρ W ⟨h1, h2, hW, hr⟩
      try simp [Op.operands, Call.operands, readsOf, All, env, Is, Act.eval, N3, N4, N5, N6] at hr
      refine ⟨18, #[sv B], ?_, not_any B _⟩
      go_simp
      try first | rfl | exact ⟨rfl, rfl⟩
    refine fwd_ce (e := sv ((~~~A) &&& (~~~B))) rfl trivial ?_ ?_
    · rintro ρ W ⟨h1, h2, hW, hr⟩
      try simp [Op.operands, Call.operands, readsOf, All, env, Is, Act.eval, N3, N4, N5, N6] at hr
      refine ⟨17, #[sv (~~~A), sv (~~~B)], ?_, and_any (~~~A) (~~~B) _⟩
      go_simp
      try first | rfl | exact ⟨rfl, rfl⟩
    refine fwd_e (e := .bool false) rfl trivial ?_ ?_
    · rintro ρ W ⟨h1, h2, hW, hr⟩
      try simp [Op.operands, Call.operands, readsOf, All, env, Is, Act.eval, N3, N4, N5, N6] at hr
      rw [alg7 A B] at hr
      simp only [sv, sc] at hr
      go_simp
      try rfl
    refine fwd_e (e := .bool false) rfl trivial ?_ ?_
    · rintro ρ W ⟨h1, h2, hW, hr⟩
      try simp [Op.operands, Call.operands, readsOf, All, env, Is, Act.eval, N3, N4, N5, N6] at hr
      go_simp
      try rfl
    refine fwd_forget [(3, .int .u8 x), (4, .pointer (some ⟨w.heap.size, 0, none⟩)), (5, .pointer (some ⟨w.heap.size + 1, 0, none⟩)), (6, .pointer (some ⟨w.heap.size + 1 + 1, 0, none⟩)), (94, .bool false)] (by simp [env, N3, N4, N5, N6]) ?_
    clear N3 N4 N5 N6
    intro acc hN
    simp only [List.forall_mem_cons] at hN
    obtain ⟨N3, N4, N5, N6, N94, -⟩ := hN
    refine fwd_l rfl ?_ rfl ?_ hA Try.underlying24 rfl info24 ?_
    · exact ⟨_, D10, by rintro g W h; simp [env, Is, N3, N4, N5, N6, N94] at h; exact h⟩
    · rintro ρ W ⟨_, _, _, hr⟩
      simp [Op.operands, Call.operands, readsOf, All, env, Is, Act.eval, N3, N4, N5, N6, N94] at hr
      exact hr
    refine fwd_ce (e := sv (~~~A)) rfl ⟨_, D10, by rintro g W h; simp [env, Is, N3, N4, N5, N6, N94] at h; exact h⟩ ?_ ?_
    · rintro ρ W ⟨h1, h2, hW, hr⟩
      try simp [Op.operands, Call.operands, readsOf, All, env, Is, Act.eval, N3, N4, N5, N6, N94] at hr
      refine ⟨18, #[sv A], ?_, not_any A _⟩
      go_simp
      try first | rfl | exact ⟨rfl, rfl⟩
    refine fwd_ce (e := sv (~~~(~~~A))) rfl ⟨_, D10, by rintro g W h; simp [env, Is, N3, N4, N5, N6, N94] at h; exact h⟩ ?_ ?_
    · rintro ρ W ⟨h1, h2, hW, hr⟩
      try simp [Op.operands, Call.operands, readsOf, All, env, Is, Act.eval, N3, N4, N5, N6, N94] at hr
      refine ⟨18, #[sv (~~~A)], ?_, not_any (~~~A) _⟩
      go_simp
      try first | rfl | exact ⟨rfl, rfl⟩
    refine fwd_l rfl ?_ rfl ?_ hA Try.underlying24 rfl info24 ?_
    · exact ⟨_, D10, by rintro g W h; simp [env, Is, N3, N4, N5, N6, N94] at h; exact h⟩
    · rintro ρ W ⟨_, _, _, hr⟩
      simp [Op.operands, Call.operands, readsOf, All, env, Is, Act.eval, N3, N4, N5, N6, N94] at hr
      exact hr
    refine fwd_e (e := .bool false) rfl ⟨_, D10, by rintro g W h; simp [env, Is, N3, N4, N5, N6, N94] at h; exact h⟩ ?_ ?_
    · rintro ρ W ⟨h1, h2, hW, hr⟩
      try simp [Op.operands, Call.operands, readsOf, All, env, Is, Act.eval, N3, N4, N5, N6, N94] at hr
      simp only [sv, sc] at hr
      go_simp
      try rfl
    refine fwd_e (e := .bool false) rfl trivial ?_ ?_
    · rintro ρ W ⟨h1, h2, hW, hr⟩
      try simp [Op.operands, Call.operands, readsOf, All, env, Is, Act.eval, N3, N4, N5, N6, N94] at hr
      go_simp
      try rfl
    refine fwd_e (e := .bool false) rfl trivial ?_ ?_
    · rintro ρ W ⟨h1, h2, hW, hr⟩
      try simp [Op.operands, Call.operands, readsOf, All, env, Is, Act.eval, N3, N4, N5, N6, N94] at hr
      go_simp
      try rfl
    refine fwd_forget [(3, .int .u8 x), (4, .pointer (some ⟨w.heap.size, 0, none⟩)), (5, .pointer (some ⟨w.heap.size + 1, 0, none⟩)), (6, .pointer (some ⟨w.heap.size + 1 + 1, 0, none⟩)), (101, .bool false)] (by simp [env, N3, N4, N5, N6, N94]) ?_
    clear N3 N4 N5 N6 N94
    intro acc hN
    simp only [List.forall_mem_cons] at hN
    obtain ⟨N3, N4, N5, N6, N101, -⟩ := hN
    refine fwd_l rfl ?_ rfl ?_ hA Try.underlying24 rfl info24 ?_
    · exact ⟨_, D17, by rintro g W h; simp [env, Is, N3, N4, N5, N6, N101] at h; exact h⟩
    · rintro ρ W ⟨_, _, _, hr⟩
      simp [Op.operands, Call.operands, readsOf, All, env, Is, Act.eval, N3, N4, N5, N6, N101] at hr
      exact hr
    refine fwd_l rfl ?_ rfl ?_ hA Try.underlying24 rfl info24 ?_
    · exact ⟨_, D17, by rintro g W h; simp [env, Is, N3, N4, N5, N6, N101] at h; exact h⟩
    · rintro ρ W ⟨_, _, _, hr⟩
      simp [Op.operands, Call.operands, readsOf, All, env, Is, Act.eval, N3, N4, N5, N6, N101] at hr
      exact hr
    refine fwd_ce (e := sv (~~~A)) rfl ⟨_, D17, by rintro g W h; simp [env, Is, N3, N4, N5, N6, N101] at h; exact h⟩ ?_ ?_
    · rintro ρ W ⟨h1, h2, hW, hr⟩
      try simp [Op.operands, Call.operands, readsOf, All, env, Is, Act.eval, N3, N4, N5, N6, N101] at hr
      refine ⟨18, #[sv A], ?_, not_any A _⟩
      go_simp
      try first | rfl | exact ⟨rfl, rfl⟩
    refine fwd_ce (e := sv (A ||| (~~~A))) rfl ⟨_, D17, by rintro g W h; simp [env, Is, N3, N4, N5, N6, N101] at h; exact h⟩ ?_ ?_
    · rintro ρ W ⟨h1, h2, hW, hr⟩
      try simp [Op.operands, Call.operands, readsOf, All, env, Is, Act.eval, N3, N4, N5, N6, N101] at hr
      refine ⟨16, #[sv A, sv (~~~A)], ?_, or_any A (~~~A) _⟩
      go_simp
      try first | rfl | exact ⟨rfl, rfl⟩
    refine fwd_ce (e := sv (BitVec.allOnes 256)) rfl ⟨_, D17, by rintro g W h; simp [env, Is, N3, N4, N5, N6, N101] at h; exact h⟩ ?_ ?_
    · rintro ρ W ⟨h1, h2, hW, hr⟩
      try simp [Op.operands, Call.operands, readsOf, All, env, Is, Act.eval, N3, N4, N5, N6, N101] at hr
      refine ⟨19, #[], ?_, all_any _⟩
      go_simp
      try first | rfl | exact ⟨rfl, rfl⟩
    refine fwd_e (e := .bool false) rfl ⟨_, D17, by rintro g W h; simp [env, Is, N3, N4, N5, N6, N101] at h; exact h⟩ ?_ ?_
    · rintro ρ W ⟨h1, h2, hW, hr⟩
      try simp [Op.operands, Call.operands, readsOf, All, env, Is, Act.eval, N3, N4, N5, N6, N101] at hr
      simp only [sv, sc] at hr
      go_simp
      try rfl
    refine fwd_e (e := .bool false) rfl trivial ?_ ?_
    · rintro ρ W ⟨h1, h2, hW, hr⟩
      try simp [Op.operands, Call.operands, readsOf, All, env, Is, Act.eval, N3, N4, N5, N6, N101] at hr
      go_simp
      try rfl
    refine fwd_e (e := .bool false) rfl trivial ?_ ?_
    · rintro ρ W ⟨h1, h2, hW, hr⟩
      try simp [Op.operands, Call.operands, readsOf, All, env, Is, Act.eval, N3, N4, N5, N6, N101] at hr
      go_simp
      try rfl
    refine fwd_forget [(3, .int .u8 x), (4, .pointer (some ⟨w.heap.size, 0, none⟩)), (5, .pointer (some ⟨w.heap.size + 1, 0, none⟩)), (6, .pointer (some ⟨w.heap.size + 1 + 1, 0, none⟩)), (109, .bool false)] (by simp [env, N3, N4, N5, N6, N101]) ?_
    clear N3 N4 N5 N6 N101
    intro acc hN
    simp only [List.forall_mem_cons] at hN
    obtain ⟨N3, N4, N5, N6, N109, -⟩ := hN
    refine fwd_l rfl ?_ rfl ?_ hA Try.underlying24 rfl info24 ?_
    · exact ⟨_, D25, by rintro g W h; simp [env, Is, N3, N4, N5, N6, N109] at h; exact h⟩
    · rintro ρ W ⟨_, _, _, hr⟩
      simp [Op.operands, Call.operands, readsOf, All, env, Is, Act.eval, N3, N4, N5, N6, N109] at hr
      exact hr
    refine fwd_l rfl ?_ rfl ?_ hA Try.underlying24 rfl info24 ?_
    · exact ⟨_, D25, by rintro g W h; simp [env, Is, N3, N4, N5, N6, N109] at h; exact h⟩
    · rintro ρ W ⟨_, _, _, hr⟩
      simp [Op.operands, Call.operands, readsOf, All, env, Is, Act.eval, N3, N4, N5, N6, N109] at hr
      exact hr
    refine fwd_ce (e := sv (~~~A)) rfl ⟨_, D25, by rintro g W h; simp [env, Is, N3, N4, N5, N6, N109] at h; exact h⟩ ?_ ?_
    · rintro ρ W ⟨h1, h2, hW, hr⟩
      try simp [Op.operands, Call.operands, readsOf, All, env, Is, Act.eval, N3, N4, N5, N6, N109] at hr
      refine ⟨18, #[sv A], ?_, not_any A _⟩
      go_simp
      try first | rfl | exact ⟨rfl, rfl⟩
    refine fwd_ce (e := sv (A &&& (~~~A))) rfl ⟨_, D25, by rintro g W h; simp [env, Is, N3, N4, N5, N6, N109] at h; exact h⟩ ?_ ?_
    · rintro ρ W ⟨h1, h2, hW, hr⟩
      try simp [Op.operands, Call.operands, readsOf, All, env, Is, Act.eval, N3, N4, N5, N6, N109] at hr
      refine ⟨17, #[sv A, sv (~~~A)], ?_, and_any A (~~~A) _⟩
      go_simp
      try first | rfl | exact ⟨rfl, rfl⟩
    refine fwd_e (e := sv 0#256) rfl ⟨_, D25, by rintro g W h; simp [env, Is, N3, N4, N5, N6, N109] at h; exact h⟩ ?_ ?_
    · rintro ρ W ⟨h1, h2, hW, hr⟩
      try simp [Op.operands, Call.operands, readsOf, All, env, Is, Act.eval, N3, N4, N5, N6, N109] at hr
      rw [sv_zero]
      go_simp
      try rfl
    refine fwd_e (e := .bool false) rfl ⟨_, D25, by rintro g W h; simp [env, Is, N3, N4, N5, N6, N109] at h; exact h⟩ ?_ ?_
    · rintro ρ W ⟨h1, h2, hW, hr⟩
      try simp [Op.operands, Call.operands, readsOf, All, env, Is, Act.eval, N3, N4, N5, N6, N109] at hr
      simp only [sv, sc] at hr
      go_simp
      try rfl
    refine fwd_e (e := .bool false) rfl trivial ?_ ?_
    · rintro ρ W ⟨h1, h2, hW, hr⟩
      try simp [Op.operands, Call.operands, readsOf, All, env, Is, Act.eval, N3, N4, N5, N6, N109] at hr
      go_simp
      try rfl
    refine fwd_e (e := .bool false) rfl trivial ?_ ?_
    · rintro ρ W ⟨h1, h2, hW, hr⟩
      try simp [Op.operands, Call.operands, readsOf, All, env, Is, Act.eval, N3, N4, N5, N6, N109] at hr
      go_simp
      try rfl
    refine fwd_forget [(3, .int .u8 x), (4, .pointer (some ⟨w.heap.size, 0, none⟩)), (5, .pointer (some ⟨w.heap.size + 1, 0, none⟩)), (6, .pointer (some ⟨w.heap.size + 1 + 1, 0, none⟩)), (117, .bool false)] (by simp [env, N3, N4, N5, N6, N109]) ?_
    clear N3 N4 N5 N6 N109
    intro acc hN
    simp only [List.forall_mem_cons] at hN
    obtain ⟨N3, N4, N5, N6, N117, -⟩ := hN
    refine fwd_l rfl ?_ rfl ?_ hA Try.underlying24 rfl info24 ?_
    · exact ⟨_, D33, by rintro g W h; simp [env, Is, N3, N4, N5, N6, N117] at h; exact h⟩
    · rintro ρ W ⟨_, _, _, hr⟩
      simp [Op.operands, Call.operands, readsOf, All, env, Is, Act.eval, N3, N4, N5, N6, N117] at hr
      exact hr
    refine fwd_l rfl ?_ rfl ?_ hB Try.underlying24 rfl info24 ?_
    · exact ⟨_, D33, by rintro g W h; simp [env, Is, N3, N4, N5, N6, N117] at h; exact h⟩
    · rintro ρ W ⟨_, _, _, hr⟩
      simp [Op.operands, Call.operands, readsOf, All, env, Is, Act.eval, N3, N4, N5, N6, N117] at hr
      exact hr
    refine fwd_ce (e := sv (A &&& ~~~B)) rfl ⟨_, D33, by rintro g W h; simp [env, Is, N3, N4, N5, N6, N117] at h; exact h⟩ ?_ ?_
    · rintro ρ W ⟨h1, h2, hW, hr⟩
      try simp [Op.operands, Call.operands, readsOf, All, env, Is, Act.eval, N3, N4, N5, N6, N117] at hr
      refine ⟨12, #[sv A, sv B], ?_, less_any A B _⟩
      go_simp
      try first | rfl | exact ⟨rfl, rfl⟩
    refine fwd_l rfl ?_ rfl ?_ hA Try.underlying24 rfl info24 ?_
    · exact ⟨_, D33, by rintro g W h; simp [env, Is, N3, N4, N5, N6, N117] at h; exact h⟩
    · rintro ρ W ⟨_, _, _, hr⟩
      simp [Op.operands, Call.operands, readsOf, All, env, Is, Act.eval, N3, N4, N5, N6, N117] at hr
      exact hr
    refine fwd_l rfl ?_ rfl ?_ hB Try.underlying24 rfl info24 ?_
    · exact ⟨_, D33, by rintro g W h; simp [env, Is, N3, N4, N5, N6, N117] at h; exact h⟩
    · rintro ρ W ⟨_, _, _, hr⟩
      simp [Op.operands, Call.operands, readsOf, All, env, Is, Act.eval, N3, N4, N5, N6, N117] at hr
      exact hr
    refine fwd_ce (e := sv (~~~B)) rfl ⟨_, D33, by rintro g W h; simp [env, Is, N3, N4, N5, N6, N117] at h; exact h⟩ ?_ ?_
    · rintro ρ W ⟨h1, h2, hW, hr⟩
      try simp [Op.operands, Call.operands, readsOf, All, env, Is, Act.eval, N3, N4, N5, N6, N117] at hr
      refine ⟨18, #[sv B], ?_, not_any B _⟩
      go_simp
      try first | rfl | exact ⟨rfl, rfl⟩
    refine fwd_ce (e := sv (A &&& (~~~B))) rfl ⟨_, D33, by rintro g W h; simp [env, Is, N3, N4, N5, N6, N117] at h; exact h⟩ ?_ ?_
    · rintro ρ W ⟨h1, h2, hW, hr⟩
      try simp [Op.operands, Call.operands, readsOf, All, env, Is, Act.eval, N3, N4, N5, N6, N117] at hr
      refine ⟨17, #[sv A, sv (~~~B)], ?_, and_any A (~~~B) _⟩
      go_simp
      try first | rfl | exact ⟨rfl, rfl⟩
    refine fwd_e (e := .bool false) rfl ⟨_, D33, by rintro g W h; simp [env, Is, N3, N4, N5, N6, N117] at h; exact h⟩ ?_ ?_
    · rintro ρ W ⟨h1, h2, hW, hr⟩
      try simp [Op.operands, Call.operands, readsOf, All, env, Is, Act.eval, N3, N4, N5, N6, N117] at hr
      simp only [sv, sc] at hr
      go_simp
      try rfl
    refine fwd_e (e := .bool false) rfl trivial ?_ ?_
    · rintro ρ W ⟨h1, h2, hW, hr⟩
      try simp [Op.operands, Call.operands, readsOf, All, env, Is, Act.eval, N3, N4, N5, N6, N117] at hr
      go_simp
      try rfl
    refine fwd_nil (hfin _ ?_)
    simp [env, N3, N4, N5, N6, N117]
  intro a3 w3 ha3 hd3 hs3 hg3
  simp only [List.forall_mem_cons] at hs3
  obtain ⟨ec, e3, e4, e5, e6, -⟩ := hs3
  have hsz : a3.tmps.size = 199 := by rw [ha3]; exact hsz
  have hdf : a3.defers = [] := hd3.trans hdf
  have hA := (hg3.block _ (Array.getElem?_eq_some_iff.1 hA).1).trans hA
  have hB := (hg3.block _ (Array.getElem?_eq_some_iff.1 hB).1).trans hB
  have hC := (hg3.block _ (Array.getElem?_eq_some_iff.1 hC).1).trans hC
  have hE := hE.trans (Ex.mono hg3 hE.size)
  show wpList _ _ _ ([] : List Oper) a3 w3
  go_wp2
  refine wp_cond_false ec ?_
  refine wp_skip ?_
  rename_i K hK
  refine hK _ _ ?_
  clear hK
  refine wp_seq ?_
  by_cases hb : A.getLsbD x = true
  · skip
    rw [hb] at hH1 hH2 hH3 hW3
    simp only [Bool.not_true, Bool.true_or] at hH2 hH3
    clear hb
    refine wp_region_seq [(9, .bool true), (3, .int .u8 x), (4, .pointer (some ⟨w.heap.size, 0, none⟩)), (5, .pointer (some ⟨w.heap.size + 1, 0, none⟩)), (6, .pointer (some ⟨w.heap.size + 1 + 1, 0, none⟩))] (by rw [hsz]; kernel_rfl) ?_ ?_
    rotate_left
    · skip
      refine fwd_opens [] [(3, .int .u8 x), (4, .pointer (some ⟨w.heap.size, 0, none⟩)), (5, .pointer (some ⟨w.heap.size + 1, 0, none⟩)), (6, .pointer (some ⟨w.heap.size + 1 + 1, 0, none⟩))] [(9, .bool true), (3, .int .u8 x), (4, .pointer (some ⟨w.heap.size, 0, none⟩)), (5, .pointer (some ⟨w.heap.size + 1, 0, none⟩)), (6, .pointer (some ⟨w.heap.size + 1 + 1, 0, none⟩))] (fun _ h => h) (by kernel_rfl) (by simp [e3, e4, e5, e6]) ?_
      intro ops a acc fin hD hN hfin
      simp only [List.forall_mem_cons] at hD hN
      obtain ⟨N3, N4, N5, N6, -⟩ := hN
      refine fwd_l rfl ?_ rfl ?_ hA Try.underlying24 rfl info24 ?_
      · exact trivial
      · rintro ρ W ⟨_, _, _, hr⟩
        simp [Op.operands, Call.operands, readsOf, All, env, Is, Act.eval, N3, N4, N5, N6] at hr
        exact hr
      refine fwd_e (e := .int .u8 x) rfl trivial ?_ ?_
      · rintro ρ W ⟨h1, h2, hW, hr⟩
        try simp [Op.operands, Call.operands, readsOf, All, env, Is, Act.eval, N3, N4, N5, N6] at hr
        go_simp
        try rfl
      refine fwd_ce (e := .bool true) rfl trivial ?_ ?_
      · rintro ρ W ⟨h1, h2, hW, hr⟩
        try simp [Op.operands, Call.operands, readsOf, All, env, Is, Act.eval, N3, N4, N5, N6] at hr
        refine ⟨14, #[sv A, .int .u8 x], ?_, hH1 _⟩
        go_simp
        try first | rfl | exact ⟨rfl, rfl⟩
      refine fwd_e (e := .bool true) rfl trivial ?_ ?_
      · rintro ρ W ⟨h1, h2, hW, hr⟩
        try simp [Op.operands, Call.operands, readsOf, All, env, Is, Act.eval, N3, N4, N5, N6] at hr
        go_simp
        try rfl
      refine fwd_nil (hfin _ ?_)
      simp [env, N3, N4, N5, N6]
    intro a5 w5 ha5 hd5 hs5 hg5
    simp only [List.forall_mem_cons] at hs5
    obtain ⟨e9, e3, e4, e5, e6, -⟩ := hs5
    have hsz : a5.tmps.size = 199 := by rw [ha5]; exact hsz
    have hdf : a5.defers = [] := hd5.trans hdf
    have hA := (hg5.block _ (Array.getElem?_eq_some_iff.1 hA).1).trans hA
    have hB := (hg5.block _ (Array.getElem?_eq_some_iff.1 hB).1).trans hB
    have hC := (hg5.block _ (Array.getElem?_eq_some_iff.1 hC).1).trans hC
    have hE := hE.trans (Ex.mono hg5 hE.size)
    show Code.wp _ _ _ a5 w5
    refine wp_seq ?_
    refine wp_region_slots 70 [(8, .bool true)] (by kernel_rfl) (by rw [hsz]; kernel_rfl) (by simp [hsz]) ?_ ?_
    rotate_left
    · skip
      refine fwd_opens [(9, 139), (20, 150), (37, 167), (46, 176), (55, 185), (62, 192)] [(3, .int .u8 x), (4, .pointer (some ⟨w.heap.size, 0, none⟩)), (5, .pointer (some ⟨w.heap.size + 1, 0, none⟩)), (6, .pointer (some ⟨w.heap.size + 1 + 1, 0, none⟩)), (9, .bool true)] [(8, .bool true)] (fun _ h => h) (by kernel_rfl) (by simp [e9, e3, e4, e5, e6]) ?_
      intro ops a acc fin hD hN hfin
      simp only [List.forall_mem_cons] at hD hN
      obtain ⟨D9, D20, D37, D46, D55, D62, -⟩ := hD
      obtain ⟨N3, N4, N5, N6, N9, -⟩ := hN
      refine fwd_l rfl ?_ rfl ?_ hA Try.underlying24 rfl info24 ?_
      · exact trivial
      · rintro ρ W ⟨_, _, _, hr⟩
        simp [Op.operands, Call.operands, readsOf, All, env, Is, Act.eval, N3, N4, N5, N6, N9] at hr
        exact hr
      refine fwd_l rfl ?_ rfl ?_ hB Try.underlying24 rfl info24 ?_
      · exact trivial
      · rintro ρ W ⟨_, _, _, hr⟩
        simp [Op.operands, Call.operands, readsOf, All, env, Is, Act.eval, N3, N4, N5, N6, N9] at hr
        exact hr
      refine fwd_ce (e := .bool wv) rfl trivial ?_ ?_
      · rintro ρ W ⟨h1, h2, hW, hr⟩
        try simp [Op.operands, Call.operands, readsOf, All, env, Is, Act.eval, N3, N4, N5, N6, N9] at hr
        refine ⟨20, #[sv A, sv B], ?_, hW1 _⟩
        go_simp
        try first | rfl | exact ⟨rfl, rfl⟩
      refine fwd_l rfl ?_ rfl ?_ hA Try.underlying24 rfl info24 ?_
      · exact trivial
      · rintro ρ W ⟨_, _, _, hr⟩
        simp [Op.operands, Call.operands, readsOf, All, env, Is, Act.eval, N3, N4, N5, N6, N9] at hr
        exact hr
      refine fwd_l rfl ?_ rfl ?_ hB Try.underlying24 rfl info24 ?_
      · exact trivial
      · rintro ρ W ⟨_, _, _, hr⟩
        simp [Op.operands, Call.operands, readsOf, All, env, Is, Act.eval, N3, N4, N5, N6, N9] at hr
        exact hr
      refine fwd_ce (e := sv (A ||| B)) rfl trivial ?_ ?_
      · rintro ρ W ⟨h1, h2, hW, hr⟩
        try simp [Op.operands, Call.operands, readsOf, All, env, Is, Act.eval, N3, N4, N5, N6, N9] at hr
        refine ⟨16, #[sv A, sv B], ?_, or_any A B _⟩
        go_simp
        try first | rfl | exact ⟨rfl, rfl⟩
      refine fwd_l rfl ?_ rfl ?_ hB Try.underlying24 rfl info24 ?_
      · exact trivial
      · rintro ρ W ⟨_, _, _, hr⟩
        simp [Op.operands, Call.operands, readsOf, All, env, Is, Act.eval, N3, N4, N5, N6, N9] at hr
        exact hr
      refine fwd_e (e := .bool wv) rfl trivial ?_ ?_
      · rintro ρ W ⟨h1, h2, hW, hr⟩
        try simp [Op.operands, Call.operands, readsOf, All, env, Is, Act.eval, N3, N4, N5, N6, N9] at hr
        simp only [sv, sc] at hr
        go_simp
        try rfl
      refine fwd_e (e := .bool true) rfl trivial ?_ ?_
      · rintro ρ W ⟨h1, h2, hW, hr⟩
        try simp [Op.operands, Call.operands, readsOf, All, env, Is, Act.eval, N3, N4, N5, N6, N9] at hr
        go_simp
        try rfl
      refine fwd_e (e := .bool true) rfl trivial ?_ ?_
      · rintro ρ W ⟨h1, h2, hW, hr⟩
        try simp [Op.operands, Call.operands, readsOf, All, env, Is, Act.eval, N3, N4, N5, N6, N9] at hr
        go_simp
        try rfl
      refine fwd_forget [(3, .int .u8 x), (4, .pointer (some ⟨w.heap.size, 0, none⟩)), (5, .pointer (some ⟨w.heap.size + 1, 0, none⟩)), (6, .pointer (some ⟨w.heap.size + 1 + 1, 0, none⟩)), (9, .bool true), (139, .bool true)] (by simp [env, N3, N4, N5, N6, N9]) ?_
      clear N3 N4 N5 N6 N9
      intro acc hN
      simp only [List.forall_mem_cons] at hN
      obtain ⟨N3, N4, N5, N6, N9, N139, -⟩ := hN
      refine fwd_l rfl ?_ rfl ?_ hA Try.underlying24 rfl info24 ?_
      · exact ⟨_, D9, by rintro g W h; simp [env, Is, N3, N4, N5, N6, N9, N139] at h; exact h⟩
      · rintro ρ W ⟨_, _, _, hr⟩
        simp [Op.operands, Call.operands, readsOf, All, env, Is, Act.eval, N3, N4, N5, N6, N9, N139] at hr
        exact hr
      refine fwd_l rfl ?_ rfl ?_ hB Try.underlying24 rfl info24 ?_
      · exact ⟨_, D9, by rintro g W h; simp [env, Is, N3, N4, N5, N6, N9, N139] at h; exact h⟩
      · rintro ρ W ⟨_, _, _, hr⟩
        simp [Op.operands, Call.operands, readsOf, All, env, Is, Act.eval, N3, N4, N5, N6, N9, N139] at hr
        exact hr
      refine fwd_ce (e := .bool mv) rfl ⟨_, D9, by rintro g W h; simp [env, Is, N3, N4, N5, N6, N9, N139] at h; exact h⟩ ?_ ?_
      · rintro ρ W ⟨h1, h2, hW, hr⟩
        try simp [Op.operands, Call.operands, readsOf, All, env, Is, Act.eval, N3, N4, N5, N6, N9, N139] at hr
        refine ⟨21, #[sv A, sv B], ?_, hM1 _⟩
        go_simp
        try first | rfl | exact ⟨rfl, rfl⟩
      refine fwd_l rfl ?_ rfl ?_ hA Try.underlying24 rfl info24 ?_
      · exact ⟨_, D9, by rintro g W h; simp [env, Is, N3, N4, N5, N6, N9, N139] at h; exact h⟩
      · rintro ρ W ⟨_, _, _, hr⟩
        simp [Op.operands, Call.operands, readsOf, All, env, Is, Act.eval, N3, N4, N5, N6, N9, N139] at hr
        exact hr
      refine fwd_l rfl ?_ rfl ?_ hB Try.underlying24 rfl info24 ?_
      · exact ⟨_, D9, by rintro g W h; simp [env, Is, N3, N4, N5, N6, N9, N139] at h; exact h⟩
      · rintro ρ W ⟨_, _, _, hr⟩
        simp [Op.operands, Call.operands, readsOf, All, env, Is, Act.eval, N3, N4, N5, N6, N9, N139] at hr
        exact hr
      refine fwd_ce (e := sv (~~~B)) rfl ⟨_, D9, by rintro g W h; simp [env, Is, N3, N4, N5, N6, N9, N139] at h; exact h⟩ ?_ ?_
      · rintro ρ W ⟨h1, h2, hW, hr⟩
        try simp [Op.operands, Call.operands, readsOf, All, env, Is, Act.eval, N3, N4, N5, N6, N9, N139] at hr
        refine ⟨18, #[sv B], ?_, not_any B _⟩
        go_simp
        try first | rfl | exact ⟨rfl, rfl⟩
      refine fwd_ce (e := .bool (!mv)) rfl ⟨_, D9, by rintro g W h; simp [env, Is, N3, N4, N5, N6, N9, N139] at h; exact h⟩ ?_ ?_
      · rintro ρ W ⟨h1, h2, hW, hr⟩
        try simp [Op.operands, Call.operands, readsOf, All, env, Is, Act.eval, N3, N4, N5, N6, N9, N139] at hr
        refine ⟨20, #[sv A, sv (~~~B)], ?_, hW2 _⟩
        go_simp
        try first | rfl | exact ⟨rfl, rfl⟩
      refine fwd_e (e := .bool mv) rfl ⟨_, D9, by rintro g W h; simp [env, Is, N3, N4, N5, N6, N9, N139] at h; exact h⟩ ?_ ?_
      · rintro ρ W ⟨h1, h2, hW, hr⟩
        try simp [Op.operands, Call.operands, readsOf, All, env, Is, Act.eval, N3, N4, N5, N6, N9, N139] at hr
        go_simp
        try rfl
      refine fwd_e (e := .bool true) rfl ⟨_, D9, by rintro g W h; simp [env, Is, N3, N4, N5, N6, N9, N139] at h; exact h⟩ ?_ ?_
      · rintro ρ W ⟨h1, h2, hW, hr⟩
        try simp [Op.operands, Call.operands, readsOf, All, env, Is, Act.eval, N3, N4, N5, N6, N9, N139] at hr
        go_simp
        try rfl
      refine fwd_e (e := .bool true) rfl trivial ?_ ?_
      · rintro ρ W ⟨h1, h2, hW, hr⟩
        try simp [Op.operands, Call.operands, readsOf, All, env, Is, Act.eval, N3, N4, N5, N6, N9, N139] at hr
        go_simp
        try rfl
      refine fwd_e (e := .bool true) rfl trivial ?_ ?_
      · rintro ρ W ⟨h1, h2, hW, hr⟩
        try simp [Op.operands, Call.operands, readsOf, All, env, Is, Act.eval, N3, N4, N5, N6, N9, N139] at hr
        go_simp
        try rfl
      refine fwd_forget [(3, .int .u8 x), (4, .pointer (some ⟨w.heap.size, 0, none⟩)), (5, .pointer (some ⟨w.heap.size + 1, 0, none⟩)), (6, .pointer (some ⟨w.heap.size + 1 + 1, 0, none⟩)), (9, .bool true), (150, .bool true)] (by simp [env, N3, N4, N5, N6, N9, N139]) ?_
      clear N3 N4 N5 N6 N9 N139
      intro acc hN
      simp only [List.forall_mem_cons] at hN
      obtain ⟨N3, N4, N5, N6, N9, N150, -⟩ := hN
      refine fwd_l rfl ?_ rfl ?_ hA Try.underlying24 rfl info24 ?_
      · exact ⟨_, D20, by rintro g W h; simp [env, Is, N3, N4, N5, N6, N9, N150] at h; exact h⟩
      · rintro ρ W ⟨_, _, _, hr⟩
        simp [Op.operands, Call.operands, readsOf, All, env, Is, Act.eval, N3, N4, N5, N6, N9, N150] at hr
        exact hr
      refine fwd_ce (e := .int .i64 ((nA : Nat) : Int)) rfl ⟨_, D20, by rintro g W h; simp [env, Is, N3, N4, N5, N6, N9, N150] at h; exact h⟩ ?_ ?_
      · rintro ρ W ⟨h1, h2, hW, hr⟩
        try simp [Op.operands, Call.operands, readsOf, All, env, Is, Act.eval, N3, N4, N5, N6, N9, N150] at hr
        refine ⟨22, #[sv A], ?_, hS1 _⟩
        go_simp
        try first | rfl | exact ⟨rfl, rfl⟩
      refine fwd_l rfl ?_ rfl ?_ hB Try.underlying24 rfl info24 ?_
      · exact ⟨_, D20, by rintro g W h; simp [env, Is, N3, N4, N5, N6, N9, N150] at h; exact h⟩
      · rintro ρ W ⟨_, _, _, hr⟩
        simp [Op.operands, Call.operands, readsOf, All, env, Is, Act.eval, N3, N4, N5, N6, N9, N150] at hr
        exact hr
      refine fwd_ce (e := .int .i64 ((nB : Nat) : Int)) rfl ⟨_, D20, by rintro g W h; simp [env, Is, N3, N4, N5, N6, N9, N150] at h; exact h⟩ ?_ ?_
      · rintro ρ W ⟨h1, h2, hW, hr⟩
        try simp [Op.operands, Call.operands, readsOf, All, env, Is, Act.eval, N3, N4, N5, N6, N9, N150] at hr
        refine ⟨22, #[sv B], ?_, hS2 _⟩
        go_simp
        try first | rfl | exact ⟨rfl, rfl⟩
      refine fwd_e (e := .int .i64 nT) rfl ⟨_, D20, by rintro g W h; simp [env, Is, N3, N4, N5, N6, N9, N150] at h; exact h⟩ ?_ ?_
      · rintro ρ W ⟨h1, h2, hW, hr⟩
        try simp [Op.operands, Call.operands, readsOf, All, env, Is, Act.eval, N3, N4, N5, N6, N9, N150] at hr
        skip
        go_simp
        try first | rfl | exact hadd1 | exact hadd2
      refine fwd_l rfl ?_ rfl ?_ hA Try.underlying24 rfl info24 ?_
      · exact ⟨_, D20, by rintro g W h; simp [env, Is, N3, N4, N5, N6, N9, N150] at h; exact h⟩
      · rintro ρ W ⟨_, _, _, hr⟩
        simp [Op.operands, Call.operands, readsOf, All, env, Is, Act.eval, N3, N4, N5, N6, N9, N150] at hr
        exact hr
      refine fwd_l rfl ?_ rfl ?_ hB Try.underlying24 rfl info24 ?_
      · exact ⟨_, D20, by rintro g W h; simp [env, Is, N3, N4, N5, N6, N9, N150] at h; exact h⟩
      · rintro ρ W ⟨_, _, _, hr⟩
        simp [Op.operands, Call.operands, readsOf, All, env, Is, Act.eval, N3, N4, N5, N6, N9, N150] at hr
        exact hr
      refine fwd_ce (e := sv (A ||| B)) rfl ⟨_, D20, by rintro g W h; simp [env, Is, N3, N4, N5, N6, N9, N150] at h; exact h⟩ ?_ ?_
      · rintro ρ W ⟨h1, h2, hW, hr⟩
        try simp [Op.operands, Call.operands, readsOf, All, env, Is, Act.eval, N3, N4, N5, N6, N9, N150] at hr
        refine ⟨16, #[sv A, sv B], ?_, or_any A B _⟩
        go_simp
        try first | rfl | exact ⟨rfl, rfl⟩
      refine fwd_ce (e := .int .i64 ((nU : Nat) : Int)) rfl ⟨_, D20, by rintro g W h; simp [env, Is, N3, N4, N5, N6, N9, N150] at h; exact h⟩ ?_ ?_
      · rintro ρ W ⟨h1, h2, hW, hr⟩
        try simp [Op.operands, Call.operands, readsOf, All, env, Is, Act.eval, N3, N4, N5, N6, N9, N150] at hr
        refine ⟨22, #[sv (A ||| B)], ?_, hS3 _⟩
        go_simp
        try first | rfl | exact ⟨rfl, rfl⟩
      refine fwd_l rfl ?_ rfl ?_ hA Try.underlying24 rfl info24 ?_
      · exact ⟨_, D20, by rintro g W h; simp [env, Is, N3, N4, N5, N6, N9, N150] at h; exact h⟩
      · rintro ρ W ⟨_, _, _, hr⟩
        simp [Op.operands, Call.operands, readsOf, All, env, Is, Act.eval, N3, N4, N5, N6, N9, N150] at hr
        exact hr
      refine fwd_l rfl ?_ rfl ?_ hB Try.underlying24 rfl info24 ?_
      · exact ⟨_, D20, by rintro g W h; simp [env, Is, N3, N4, N5, N6, N9, N150] at h; exact h⟩
      · rintro ρ W ⟨_, _, _, hr⟩
        simp [Op.operands, Call.operands, readsOf, All, env, Is, Act.eval, N3, N4, N5, N6, N9, N150] at hr
        exact hr
      refine fwd_ce (e := sv (A &&& B)) rfl ⟨_, D20, by rintro g W h; simp [env, Is, N3, N4, N5, N6, N9, N150] at h; exact h⟩ ?_ ?_
      · rintro ρ W ⟨h1, h2, hW, hr⟩
        try simp [Op.operands, Call.operands, readsOf, All, env, Is, Act.eval, N3, N4, N5, N6, N9, N150] at hr
        refine ⟨17, #[sv A, sv B], ?_, and_any A B _⟩
        go_simp
        try first | rfl | exact ⟨rfl, rfl⟩
      refine fwd_ce (e := .int .i64 ((nI : Nat) : Int)) rfl ⟨_, D20, by rintro g W h; simp [env, Is, N3, N4, N5, N6, N9, N150] at h; exact h⟩ ?_ ?_
      · rintro ρ W ⟨h1, h2, hW, hr⟩
        try simp [Op.operands, Call.operands, readsOf, All, env, Is, Act.eval, N3, N4, N5, N6, N9, N150] at hr
        refine ⟨22, #[sv (A &&& B)], ?_, hS4 _⟩
        go_simp
        try first | rfl | exact ⟨rfl, rfl⟩
      refine fwd_e (e := .int .i64 nT) rfl ⟨_, D20, by rintro g W h; simp [env, Is, N3, N4, N5, N6, N9, N150] at h; exact h⟩ ?_ ?_
      · rintro ρ W ⟨h1, h2, hW, hr⟩
        try simp [Op.operands, Call.operands, readsOf, All, env, Is, Act.eval, N3, N4, N5, N6, N9, N150] at hr
        skip
        go_simp
        try first | rfl | exact hadd1 | exact hadd2
      refine fwd_e (e := .bool true) rfl ⟨_, D20, by rintro g W h; simp [env, Is, N3, N4, N5, N6, N9, N150] at h; exact h⟩ ?_ ?_
      · rintro ρ W ⟨h1, h2, hW, hr⟩
        try simp [Op.operands, Call.operands, readsOf, All, env, Is, Act.eval, N3, N4, N5, N6, N9, N150] at hr
        go_simp
        try rfl
      refine fwd_e (e := .bool true) rfl trivial ?_ ?_
      · rintro ρ W ⟨h1, h2, hW, hr⟩
        try simp [Op.operands, Call.operands, readsOf, All, env, Is, Act.eval, N3, N4, N5, N6, N9, N150] at hr
        go_simp
        try rfl
      refine fwd_e (e := .bool true) rfl trivial ?_ ?_
      · rintro ρ W ⟨h1, h2, hW, hr⟩
        try simp [Op.operands, Call.operands, readsOf, All, env, Is, Act.eval, N3, N4, N5, N6, N9, N150] at hr
        go_simp
        try rfl
      refine fwd_forget [(3, .int .u8 x), (4, .pointer (some ⟨w.heap.size, 0, none⟩)), (5, .pointer (some ⟨w.heap.size + 1, 0, none⟩)), (6, .pointer (some ⟨w.heap.size + 1 + 1, 0, none⟩)), (9, .bool true), (167, .bool true)] (by simp [env, N3, N4, N5, N6, N9, N150]) ?_
      clear N3 N4 N5 N6 N9 N150
      intro acc hN
      simp only [List.forall_mem_cons] at hN
      obtain ⟨N3, N4, N5, N6, N9, N167, -⟩ := hN
      refine fwd_l rfl ?_ rfl ?_ hA Try.underlying24 rfl info24 ?_
      · exact ⟨_, D37, by rintro g W h; simp [env, Is, N3, N4, N5, N6, N9, N167] at h; exact h⟩
      · rintro ρ W ⟨_, _, _, hr⟩
        simp [Op.operands, Call.operands, readsOf, All, env, Is, Act.eval, N3, N4, N5, N6, N9, N167] at hr
        exact hr
      refine fwd_ce (e := sv (~~~A)) rfl ⟨_, D37, by rintro g W h; simp [env, Is, N3, N4, N5, N6, N9, N167] at h; exact h⟩ ?_ ?_
      · rintro ρ W ⟨h1, h2, hW, hr⟩
        try simp [Op.operands, Call.operands, readsOf, All, env, Is, Act.eval, N3, N4, N5, N6, N9, N167] at hr
        refine ⟨18, #[sv A], ?_, not_any A _⟩
        go_simp
        try first | rfl | exact ⟨rfl, rfl⟩
      refine fwd_e (e := .int .u8 x) rfl ⟨_, D37, by rintro g W h; simp [env, Is, N3, N4, N5, N6, N9, N167] at h; exact h⟩ ?_ ?_
      · rintro ρ W ⟨h1, h2, hW, hr⟩
        try simp [Op.operands, Call.operands, readsOf, All, env, Is, Act.eval, N3, N4, N5, N6, N9, N167] at hr
        go_simp
        try rfl
      refine fwd_ce (e := .bool false) rfl ⟨_, D37, by rintro g W h; simp [env, Is, N3, N4, N5, N6, N9, N167] at h; exact h⟩ ?_ ?_
      · rintro ρ W ⟨h1, h2, hW, hr⟩
        try simp [Op.operands, Call.operands, readsOf, All, env, Is, Act.eval, N3, N4, N5, N6, N9, N167] at hr
        refine ⟨14, #[sv (~~~A), .int .u8 x], ?_, hH2 _⟩
        go_simp
        try first | rfl | exact ⟨rfl, rfl⟩
      refine fwd_e (e := .bool true) rfl ⟨_, D37, by rintro g W h; simp [env, Is, N3, N4, N5, N6, N9, N167] at h; exact h⟩ ?_ ?_
      · rintro ρ W ⟨h1, h2, hW, hr⟩
        try simp [Op.operands, Call.operands, readsOf, All, env, Is, Act.eval, N3, N4, N5, N6, N9, N167] at hr
        go_simp
        try rfl
      refine fwd_e (e := .bool false) rfl ⟨_, D37, by rintro g W h; simp [env, Is, N3, N4, N5, N6, N9, N167] at h; exact h⟩ ?_ ?_
      · rintro ρ W ⟨h1, h2, hW, hr⟩
        try simp [Op.operands, Call.operands, readsOf, All, env, Is, Act.eval, N3, N4, N5, N6, N9, N167] at hr
        go_simp
        try rfl
      refine fwd_e (e := .bool true) rfl ⟨_, D37, by rintro g W h; simp [env, Is, N3, N4, N5, N6, N9, N167] at h; exact h⟩ ?_ ?_
      · rintro ρ W ⟨h1, h2, hW, hr⟩
        try simp [Op.operands, Call.operands, readsOf, All, env, Is, Act.eval, N3, N4, N5, N6, N9, N167] at hr
        go_simp
        try rfl
      refine fwd_e (e := .bool true) rfl trivial ?_ ?_
      · rintro ρ W ⟨h1, h2, hW, hr⟩
        try simp [Op.operands, Call.operands, readsOf, All, env, Is, Act.eval, N3, N4, N5, N6, N9, N167] at hr
        go_simp
        try rfl
      refine fwd_e (e := .bool true) rfl trivial ?_ ?_
      · rintro ρ W ⟨h1, h2, hW, hr⟩
        try simp [Op.operands, Call.operands, readsOf, All, env, Is, Act.eval, N3, N4, N5, N6, N9, N167] at hr
        go_simp
        try rfl
      refine fwd_forget [(3, .int .u8 x), (4, .pointer (some ⟨w.heap.size, 0, none⟩)), (5, .pointer (some ⟨w.heap.size + 1, 0, none⟩)), (6, .pointer (some ⟨w.heap.size + 1 + 1, 0, none⟩)), (9, .bool true), (176, .bool true)] (by simp [env, N3, N4, N5, N6, N9, N167]) ?_
      clear N3 N4 N5 N6 N9 N167
      intro acc hN
      simp only [List.forall_mem_cons] at hN
      obtain ⟨N3, N4, N5, N6, N9, N176, -⟩ := hN
      refine fwd_e (e := .int .u8 x) rfl ⟨_, D46, by rintro g W h; simp [env, Is, N3, N4, N5, N6, N9, N176] at h; exact h⟩ ?_ ?_
      · rintro ρ W ⟨h1, h2, hW, hr⟩
        try simp [Op.operands, Call.operands, readsOf, All, env, Is, Act.eval, N3, N4, N5, N6, N9, N176] at hr
        go_simp
        try rfl
      refine fwd_s #[.int .u8 (x : Int)] 1 5 rfl ⟨_, D46, by rintro g W h; simp [env, Is, N3, N4, N5, N6, N9, N176] at h; exact h⟩ ?_ ?_
      · rintro ρ W ⟨h1, h2, hW, hr⟩
        try simp [Op.operands, Call.operands, readsOf, All, env, Is, Act.eval, N3, N4, N5, N6, N9, N176] at hr
        go_simp
        try rfl
      refine fwd_ce (e := sv (ofS [x])) rfl ⟨_, D46, by rintro g W h; simp [env, Is, N3, N4, N5, N6, N9, N176] at h; exact h⟩ ?_ ?_
      · rintro ρ W ⟨h1, h2, hW, hr⟩
        try simp [Op.operands, Call.operands, readsOf, All, env, Is, Act.eval, N3, N4, N5, N6, N9, N176] at hr
        refine ⟨13, #[ρ (.tmp 178)], ?_, hofx _ _ hr⟩
        go_simp
        try rfl
      refine fwd_l rfl ?_ rfl ?_ hA Try.underlying24 rfl info24 ?_
      · exact ⟨_, D46, by rintro g W h; simp [env, Is, N3, N4, N5, N6, N9, N176] at h; exact h⟩
      · rintro ρ W ⟨_, _, _, hr⟩
        simp [Op.operands, Call.operands, readsOf, All, env, Is, Act.eval, N3, N4, N5, N6, N9, N176] at hr
        exact hr
      refine fwd_ce (e := .bool true) rfl ⟨_, D46, by rintro g W h; simp [env, Is, N3, N4, N5, N6, N9, N176] at h; exact h⟩ ?_ ?_
      · rintro ρ W ⟨h1, h2, hW, hr⟩
        try simp [Op.operands, Call.operands, readsOf, All, env, Is, Act.eval, N3, N4, N5, N6, N9, N176] at hr
        refine ⟨20, #[sv (ofS [x]), sv A], ?_, hW3 _⟩
        go_simp
        try first | rfl | exact ⟨rfl, rfl⟩
      refine fwd_e (e := .bool true) rfl ⟨_, D46, by rintro g W h; simp [env, Is, N3, N4, N5, N6, N9, N176] at h; exact h⟩ ?_ ?_
      · rintro ρ W ⟨h1, h2, hW, hr⟩
        try simp [Op.operands, Call.operands, readsOf, All, env, Is, Act.eval, N3, N4, N5, N6, N9, N176] at hr
        go_simp
        try rfl
      refine fwd_e (e := .bool true) rfl ⟨_, D46, by rintro g W h; simp [env, Is, N3, N4, N5, N6, N9, N176] at h; exact h⟩ ?_ ?_
      · rintro ρ W ⟨h1, h2, hW, hr⟩
        try simp [Op.operands, Call.operands, readsOf, All, env, Is, Act.eval, N3, N4, N5, N6, N9, N176] at hr
        go_simp
        try rfl
      refine fwd_e (e := .bool true) rfl trivial ?_ ?_
      · rintro ρ W ⟨h1, h2, hW, hr⟩
        try simp [Op.operands, Call.operands, readsOf, All, env, Is, Act.eval, N3, N4, N5, N6, N9, N176] at hr
        go_simp
        try rfl
      refine fwd_e (e := .bool true) rfl trivial ?_ ?_
      · rintro ρ W ⟨h1, h2, hW, hr⟩
        try simp [Op.operands, Call.operands, readsOf, All, env, Is, Act.eval, N3, N4, N5, N6, N9, N176] at hr
        go_simp
        try rfl
      refine fwd_forget [(3, .int .u8 x), (4, .pointer (some ⟨w.heap.size, 0, none⟩)), (5, .pointer (some ⟨w.heap.size + 1, 0, none⟩)), (6, .pointer (some ⟨w.heap.size + 1 + 1, 0, none⟩)), (9, .bool true), (185, .bool true)] (by simp [env, N3, N4, N5, N6, N9, N176]) ?_
      clear N3 N4 N5 N6 N9 N176
      intro acc hN
      simp only [List.forall_mem_cons] at hN
      obtain ⟨N3, N4, N5, N6, N9, N185, -⟩ := hN
      refine fwd_l rfl ?_ rfl ?_ hA Try.underlying24 rfl info24 ?_
      · exact ⟨_, D55, by rintro g W h; simp [env, Is, N3, N4, N5, N6, N9, N185] at h; exact h⟩
      · rintro ρ W ⟨_, _, _, hr⟩
        simp [Op.operands, Call.operands, readsOf, All, env, Is, Act.eval, N3, N4, N5, N6, N9, N185] at hr
        exact hr
      refine fwd_l rfl ?_ rfl ?_ hB Try.underlying24 rfl info24 ?_
      · exact ⟨_, D55, by rintro g W h; simp [env, Is, N3, N4, N5, N6, N9, N185] at h; exact h⟩
      · rintro ρ W ⟨_, _, _, hr⟩
        simp [Op.operands, Call.operands, readsOf, All, env, Is, Act.eval, N3, N4, N5, N6, N9, N185] at hr
        exact hr
      refine fwd_ce (e := sv (A ||| B)) rfl ⟨_, D55, by rintro g W h; simp [env, Is, N3, N4, N5, N6, N9, N185] at h; exact h⟩ ?_ ?_
      · rintro ρ W ⟨h1, h2, hW, hr⟩
        try simp [Op.operands, Call.operands, readsOf, All, env, Is, Act.eval, N3, N4, N5, N6, N9, N185] at hr
        refine ⟨16, #[sv A, sv B], ?_, or_any A B _⟩
        go_simp
        try first | rfl | exact ⟨rfl, rfl⟩
      refine fwd_e (e := .int .u8 x) rfl ⟨_, D55, by rintro g W h; simp [env, Is, N3, N4, N5, N6, N9, N185] at h; exact h⟩ ?_ ?_
      · rintro ρ W ⟨h1, h2, hW, hr⟩
        try simp [Op.operands, Call.operands, readsOf, All, env, Is, Act.eval, N3, N4, N5, N6, N9, N185] at hr
        go_simp
        try rfl
      refine fwd_ce (e := .bool true) rfl ⟨_, D55, by rintro g W h; simp [env, Is, N3, N4, N5, N6, N9, N185] at h; exact h⟩ ?_ ?_
      · rintro ρ W ⟨h1, h2, hW, hr⟩
        try simp [Op.operands, Call.operands, readsOf, All, env, Is, Act.eval, N3, N4, N5, N6, N9, N185] at hr
        refine ⟨14, #[sv (A ||| B), .int .u8 x], ?_, hH3 _⟩
        go_simp
        try first | rfl | exact ⟨rfl, rfl⟩
      refine fwd_e (e := .bool true) rfl ⟨_, D55, by rintro g W h; simp [env, Is, N3, N4, N5, N6, N9, N185] at h; exact h⟩ ?_ ?_
      · rintro ρ W ⟨h1, h2, hW, hr⟩
        try simp [Op.operands, Call.operands, readsOf, All, env, Is, Act.eval, N3, N4, N5, N6, N9, N185] at hr
        go_simp
        try rfl
      refine fwd_e (e := .bool true) rfl ⟨_, D55, by rintro g W h; simp [env, Is, N3, N4, N5, N6, N9, N185] at h; exact h⟩ ?_ ?_
      · rintro ρ W ⟨h1, h2, hW, hr⟩
        try simp [Op.operands, Call.operands, readsOf, All, env, Is, Act.eval, N3, N4, N5, N6, N9, N185] at hr
        go_simp
        try rfl
      refine fwd_forget [(3, .int .u8 x), (4, .pointer (some ⟨w.heap.size, 0, none⟩)), (5, .pointer (some ⟨w.heap.size + 1, 0, none⟩)), (6, .pointer (some ⟨w.heap.size + 1 + 1, 0, none⟩)), (9, .bool true), (185, .bool true), (190, .bool true), (192, .bool true)] (by simp [env, N3, N4, N5, N6, N9, N185]) ?_
      clear N3 N4 N5 N6 N9 N185
      intro acc hN
      simp only [List.forall_mem_cons] at hN
      obtain ⟨N3, N4, N5, N6, N9, N185, N190, N192, -⟩ := hN
      refine fwd_pass rfl rfl D62 (by rintro g W h; simp [env, Is, N3, N4, N5, N6, N9, N185, N190, N192] at h; exact h) ?_
      refine fwd_pass rfl rfl D62 (by rintro g W h; simp [env, Is, N3, N4, N5, N6, N9, N185, N190, N192] at h; exact h) ?_
      refine fwd_pass rfl rfl D62 (by rintro g W h; simp [env, Is, N3, N4, N5, N6, N9, N185, N190, N192] at h; exact h) ?_
      refine fwd_e (e := .bool true) rfl ⟨_, D55, by rintro g W h; simp [env, Is, N3, N4, N5, N6, N9, N185, N190, N192] at h; exact h⟩ ?_ ?_
      · rintro ρ W ⟨h1, h2, hW, hr⟩
        try simp [Op.operands, Call.operands, readsOf, All, env, Is, Act.eval, N3, N4, N5, N6, N9, N185, N190, N192] at hr
        go_simp
        try rfl
      refine fwd_e (e := .bool true) rfl ⟨_, D55, by rintro g W h; simp [env, Is, N3, N4, N5, N6, N9, N185, N190, N192] at h; exact h⟩ ?_ ?_
      · rintro ρ W ⟨h1, h2, hW, hr⟩
        try simp [Op.operands, Call.operands, readsOf, All, env, Is, Act.eval, N3, N4, N5, N6, N9, N185, N190, N192] at hr
        go_simp
        try rfl
      refine fwd_e (e := .bool true) rfl trivial ?_ ?_
      · rintro ρ W ⟨h1, h2, hW, hr⟩
        try simp [Op.operands, Call.operands, readsOf, All, env, Is, Act.eval, N3, N4, N5, N6, N9, N185, N190, N192] at hr
        go_simp
        try rfl
      refine fwd_e (e := .bool true) rfl trivial ?_ ?_
      · rintro ρ W ⟨h1, h2, hW, hr⟩
        try simp [Op.operands, Call.operands, readsOf, All, env, Is, Act.eval, N3, N4, N5, N6, N9, N185, N190, N192] at hr
        go_simp
        try rfl
      refine fwd_nil (hfin _ ?_)
      simp [env, N3, N4, N5, N6, N9, N185, N190, N192]
    intro a4 w4 ha4 hd4 hs4 hg4
    simp only [List.forall_mem_cons] at hs4
    obtain ⟨e8, -⟩ := hs4
    show wpList _ _ _ ([] : List Oper) a4 w4
    go_wp2
    refine bodyPost_ret (v := .bool true) ?_ ?_ ⟨rfl, hE.trans (Ex.mono hg4 hE.size)⟩
    · rw [← e8]; exact results_tmp rfl _ _ _
    · exact hd4.trans hdf
  · skip
    replace hb : A.getLsbD x = false := by simpa using hb
    rw [hb] at hH1 hH2 hH3 hW3
    simp only [Bool.not_false, Bool.false_or] at hH2 hH3
    clear hb
    refine wp_region_seq [(9, .bool false), (3, .int .u8 x), (4, .pointer (some ⟨w.heap.size, 0, none⟩)), (5, .pointer (some ⟨w.heap.size + 1, 0, none⟩)), (6, .pointer (some ⟨w.heap.size + 1 + 1, 0, none⟩))] (by rw [hsz]; kernel_rfl) ?_ ?_
    rotate_left
    · skip
      refine fwd_opens [] [(3, .int .u8 x), (4, .pointer (some ⟨w.heap.size, 0, none⟩)), (5, .pointer (some ⟨w.heap.size + 1, 0, none⟩)), (6, .pointer (some ⟨w.heap.size + 1 + 1, 0, none⟩))] [(9, .bool false), (3, .int .u8 x), (4, .pointer (some ⟨w.heap.size, 0, none⟩)), (5, .pointer (some ⟨w.heap.size + 1, 0, none⟩)), (6, .pointer (some ⟨w.heap.size + 1 + 1, 0, none⟩))] (fun _ h => h) (by kernel_rfl) (by simp [e3, e4, e5, e6]) ?_
      intro ops a acc fin hD hN hfin
      simp only [List.forall_mem_cons] at hD hN
      obtain ⟨N3, N4, N5, N6, -⟩ := hN
      refine fwd_l rfl ?_ rfl ?_ hA Try.underlying24 rfl info24 ?_
      · exact trivial
      · rintro ρ W ⟨_, _, _, hr⟩
        simp [Op.operands, Call.operands, readsOf, All, env, Is, Act.eval, N3, N4, N5, N6] at hr
        exact hr
      refine fwd_e (e := .int .u8 x) rfl trivial ?_ ?_
      · rintro ρ W ⟨h1, h2, hW, hr⟩
        try simp [Op.operands, Call.operands, readsOf, All, env, Is, Act.eval, N3, N4, N5, N6] at hr
        go_simp
        try rfl
      refine fwd_ce (e := .bool false) rfl trivial ?_ ?_
      · rintro ρ W ⟨h1, h2, hW, hr⟩
        try simp [Op.operands, Call.operands, readsOf, All, env, Is, Act.eval, N3, N4, N5, N6] at hr
        refine ⟨14, #[sv A, .int .u8 x], ?_, hH1 _⟩
        go_simp
        try first | rfl | exact ⟨rfl, rfl⟩
      refine fwd_e (e := .bool false) rfl trivial ?_ ?_
      · rintro ρ W ⟨h1, h2, hW, hr⟩
        try simp [Op.operands, Call.operands, readsOf, All, env, Is, Act.eval, N3, N4, N5, N6] at hr
        go_simp
        try rfl
      refine fwd_nil (hfin _ ?_)
      simp [env, N3, N4, N5, N6]
    intro a5 w5 ha5 hd5 hs5 hg5
    simp only [List.forall_mem_cons] at hs5
    obtain ⟨e9, e3, e4, e5, e6, -⟩ := hs5
    have hsz : a5.tmps.size = 199 := by rw [ha5]; exact hsz
    have hdf : a5.defers = [] := hd5.trans hdf
    have hA := (hg5.block _ (Array.getElem?_eq_some_iff.1 hA).1).trans hA
    have hB := (hg5.block _ (Array.getElem?_eq_some_iff.1 hB).1).trans hB
    have hC := (hg5.block _ (Array.getElem?_eq_some_iff.1 hC).1).trans hC
    have hE := hE.trans (Ex.mono hg5 hE.size)
    show Code.wp _ _ _ a5 w5
    refine wp_seq ?_
    refine wp_region_slots 70 [(8, .bool true)] (by kernel_rfl) (by rw [hsz]; kernel_rfl) (by simp [hsz]) ?_ ?_
    rotate_left
    · skip
      refine fwd_opens [(9, 139), (20, 150), (37, 167), (46, 176), (55, 185), (62, 192)] [(3, .int .u8 x), (4, .pointer (some ⟨w.heap.size, 0, none⟩)), (5, .pointer (some ⟨w.heap.size + 1, 0, none⟩)), (6, .pointer (some ⟨w.heap.size + 1 + 1, 0, none⟩)), (9, .bool false)] [(8, .bool true)] (fun _ h => h) (by kernel_rfl) (by simp [e9, e3, e4, e5, e6]) ?_
      intro ops a acc fin hD hN hfin
      simp only [List.forall_mem_cons] at hD hN
      obtain ⟨D9, D20, D37, D46, D55, D62, -⟩ := hD
      obtain ⟨N3, N4, N5, N6, N9, -⟩ := hN
      refine fwd_l rfl ?_ rfl ?_ hA Try.underlying24 rfl info24 ?_
      · exact trivial
      · rintro ρ W ⟨_, _, _, hr⟩
        simp [Op.operands, Call.operands, readsOf, All, env, Is, Act.eval, N3, N4, N5, N6, N9] at hr
        exact hr
      refine fwd_l rfl ?_ rfl ?_ hB Try.underlying24 rfl info24 ?_
      · exact trivial
      · rintro ρ W ⟨_, _, _, hr⟩
        simp [Op.operands, Call.operands, readsOf, All, env, Is, Act.eval, N3, N4, N5, N6, N9] at hr
        exact hr
      refine fwd_ce (e := .bool wv) rfl trivial ?_ ?_
      · rintro ρ W ⟨h1, h2, hW, hr⟩
        try simp [Op.operands, Call.operands, readsOf, All, env, Is, Act.eval, N3, N4, N5, N6, N9] at hr
        refine ⟨20, #[sv A, sv B], ?_, hW1 _⟩
        go_simp
        try first | rfl | exact ⟨rfl, rfl⟩
      refine fwd_l rfl ?_ rfl ?_ hA Try.underlying24 rfl info24 ?_
      · exact trivial
      · rintro ρ W ⟨_, _, _, hr⟩
        simp [Op.operands, Call.operands, readsOf, All, env, Is, Act.eval, N3, N4, N5, N6, N9] at hr
        exact hr
      refine fwd_l rfl ?_ rfl ?_ hB Try.underlying24 rfl info24 ?_
      · exact trivial
      · rintro ρ W ⟨_, _, _, hr⟩
        simp [Op.operands, Call.operands, readsOf, All, env, Is, Act.eval, N3, N4, N5, N6, N9] at hr
        exact hr
      refine fwd_ce (e := sv (A ||| B)) rfl trivial ?_ ?_
      · rintro ρ W ⟨h1, h2, hW, hr⟩
        try simp [Op.operands, Call.operands, readsOf, All, env, Is, Act.eval, N3, N4, N5, N6, N9] at hr
        refine ⟨16, #[sv A, sv B], ?_, or_any A B _⟩
        go_simp
        try first | rfl | exact ⟨rfl, rfl⟩
      refine fwd_l rfl ?_ rfl ?_ hB Try.underlying24 rfl info24 ?_
      · exact trivial
      · rintro ρ W ⟨_, _, _, hr⟩
        simp [Op.operands, Call.operands, readsOf, All, env, Is, Act.eval, N3, N4, N5, N6, N9] at hr
        exact hr
      refine fwd_e (e := .bool wv) rfl trivial ?_ ?_
      · rintro ρ W ⟨h1, h2, hW, hr⟩
        try simp [Op.operands, Call.operands, readsOf, All, env, Is, Act.eval, N3, N4, N5, N6, N9] at hr
        simp only [sv, sc] at hr
        go_simp
        try rfl
      refine fwd_e (e := .bool true) rfl trivial ?_ ?_
      · rintro ρ W ⟨h1, h2, hW, hr⟩
        try simp [Op.operands, Call.operands, readsOf, All, env, Is, Act.eval, N3, N4, N5, N6, N9] at hr
        go_simp
        try rfl
      refine fwd_e (e := .bool true) rfl trivial ?_ ?_
      · rintro ρ W ⟨h1, h2, hW, hr⟩
        try simp [Op.operands, Call.operands, readsOf, All, env, Is, Act.eval, N3, N4, N5, N6, N9] at hr
        go_simp
        try rfl
      refine fwd_forget [(3, .int .u8 x), (4, .pointer (some ⟨w.heap.size, 0, none⟩)), (5, .pointer (some ⟨w.heap.size + 1, 0, none⟩)), (6, .pointer (some ⟨w.heap.size + 1 + 1, 0, none⟩)), (9, .bool false), (139, .bool true)] (by simp [env, N3, N4, N5, N6, N9]) ?_
      clear N3 N4 N5 N6 N9
      intro acc hN
      simp only [List.forall_mem_cons] at hN
      obtain ⟨N3, N4, N5, N6, N9, N139, -⟩ := hN
      refine fwd_l rfl ?_ rfl ?_ hA Try.underlying24 rfl info24 ?_
      · exact ⟨_, D9, by rintro g W h; simp [env, Is, N3, N4, N5, N6, N9, N139] at h; exact h⟩
      · rintro ρ W ⟨_, _, _, hr⟩
        simp [Op.operands, Call.operands, readsOf, All, env, Is, Act.eval, N3, N4, N5, N6, N9, N139] at hr
        exact hr
      refine fwd_l rfl ?_ rfl ?_ hB Try.underlying24 rfl info24 ?_
      · exact ⟨_, D9, by rintro g W h; simp [env, Is, N3, N4, N5, N6, N9, N139] at h; exact h⟩
      · rintro ρ W ⟨_, _, _, hr⟩
        simp [Op.operands, Call.operands, readsOf, All, env, Is, Act.eval, N3, N4, N5, N6, N9, N139] at hr
        exact hr
      refine fwd_ce (e := .bool mv) rfl ⟨_, D9, by rintro g W h; simp [env, Is, N3, N4, N5, N6, N9, N139] at h; exact h⟩ ?_ ?_
      · rintro ρ W ⟨h1, h2, hW, hr⟩
        try simp [Op.operands, Call.operands, readsOf, All, env, Is, Act.eval, N3, N4, N5, N6, N9, N139] at hr
        refine ⟨21, #[sv A, sv B], ?_, hM1 _⟩
        go_simp
        try first | rfl | exact ⟨rfl, rfl⟩
      refine fwd_l rfl ?_ rfl ?_ hA Try.underlying24 rfl info24 ?_
      · exact ⟨_, D9, by rintro g W h; simp [env, Is, N3, N4, N5, N6, N9, N139] at h; exact h⟩
      · rintro ρ W ⟨_, _, _, hr⟩
        simp [Op.operands, Call.operands, readsOf, All, env, Is, Act.eval, N3, N4, N5, N6, N9, N139] at hr
        exact hr
      refine fwd_l rfl ?_ rfl ?_ hB Try.underlying24 rfl info24 ?_
      · exact ⟨_, D9, by rintro g W h; simp [env, Is, N3, N4, N5, N6, N9, N139] at h; exact h⟩
      · rintro ρ W ⟨_, _, _, hr⟩
        simp [Op.operands, Call.operands, readsOf, All, env, Is, Act.eval, N3, N4, N5, N6, N9, N139] at hr
        exact hr
      refine fwd_ce (e := sv (~~~B)) rfl ⟨_, D9, by rintro g W h; simp [env, Is, N3, N4, N5, N6, N9, N139] at h; exact h⟩ ?_ ?_
      · rintro ρ W ⟨h1, h2, hW, hr⟩
        try simp [Op.operands, Call.operands, readsOf, All, env, Is, Act.eval, N3, N4, N5, N6, N9, N139] at hr
        refine ⟨18, #[sv B], ?_, not_any B _⟩
        go_simp
        try first | rfl | exact ⟨rfl, rfl⟩
      refine fwd_ce (e := .bool (!mv)) rfl ⟨_, D9, by rintro g W h; simp [env, Is, N3, N4, N5, N6, N9, N139] at h; exact h⟩ ?_ ?_
      · rintro ρ W ⟨h1, h2, hW, hr⟩
        try simp [Op.operands, Call.operands, readsOf, All, env, Is, Act.eval, N3, N4, N5, N6, N9, N139] at hr
        refine ⟨20, #[sv A, sv (~~~B)], ?_, hW2 _⟩
        go_simp
        try first | rfl | exact ⟨rfl, rfl⟩
      refine fwd_e (e := .bool mv) rfl ⟨_, D9, by rintro g W h; simp [env, Is, N3, N4, N5, N6, N9, N139] at h; exact h⟩ ?_ ?_
      · rintro ρ W ⟨h1, h2, hW, hr⟩
        try simp [Op.operands, Call.operands, readsOf, All, env, Is, Act.eval, N3, N4, N5, N6, N9, N139] at hr
        go_simp
        try rfl
      refine fwd_e (e := .bool true) rfl ⟨_, D9, by rintro g W h; simp [env, Is, N3, N4, N5, N6, N9, N139] at h; exact h⟩ ?_ ?_
      · rintro ρ W ⟨h1, h2, hW, hr⟩
        try simp [Op.operands, Call.operands, readsOf, All, env, Is, Act.eval, N3, N4, N5, N6, N9, N139] at hr
        go_simp
        try rfl
      refine fwd_e (e := .bool true) rfl trivial ?_ ?_
      · rintro ρ W ⟨h1, h2, hW, hr⟩
        try simp [Op.operands, Call.operands, readsOf, All, env, Is, Act.eval, N3, N4, N5, N6, N9, N139] at hr
        go_simp
        try rfl
      refine fwd_e (e := .bool true) rfl trivial ?_ ?_
      · rintro ρ W ⟨h1, h2, hW, hr⟩
        try simp [Op.operands, Call.operands, readsOf, All, env, Is, Act.eval, N3, N4, N5, N6, N9, N139] at hr
        go_simp
        try rfl
      refine fwd_forget [(3, .int .u8 x), (4, .pointer (some ⟨w.heap.size, 0, none⟩)), (5, .pointer (some ⟨w.heap.size + 1, 0, none⟩)), (6, .pointer (some ⟨w.heap.size + 1 + 1, 0, none⟩)), (9, .bool false), (150, .bool true)] (by simp [env, N3, N4, N5, N6, N9, N139]) ?_
      clear N3 N4 N5 N6 N9 N139
      intro acc hN
      simp only [List.forall_mem_cons] at hN
      obtain ⟨N3, N4, N5, N6, N9, N150, -⟩ := hN
      refine fwd_l rfl ?_ rfl ?_ hA Try.underlying24 rfl info24 ?_
      · exact ⟨_, D20, by rintro g W h; simp [env, Is, N3, N4, N5, N6, N9, N150] at h; exact h⟩
      · rintro ρ W ⟨_, _, _, hr⟩
        simp [Op.operands, Call.operands, readsOf, All, env, Is, Act.eval, N3, N4, N5, N6, N9, N150] at hr
        exact hr
      refine fwd_ce (e := .int .i64 ((nA : Nat) : Int)) rfl ⟨_, D20, by rintro g W h; simp [env, Is, N3, N4, N5, N6, N9, N150] at h; exact h⟩ ?_ ?_
      · rintro ρ W ⟨h1, h2, hW, hr⟩
        try simp [Op.operands, Call.operands, readsOf, All, env, Is, Act.eval, N3, N4, N5, N6, N9, N150] at hr
        refine ⟨22, #[sv A], ?_, hS1 _⟩
        go_simp
        try first | rfl | exact ⟨rfl, rfl⟩
      refine fwd_l rfl ?_ rfl ?_ hB Try.underlying24 rfl info24 ?_
      · exact ⟨_, D20, by rintro g W h; simp [env, Is, N3, N4, N5, N6, N9, N150] at h; exact h⟩
      · rintro ρ W ⟨_, _, _, hr⟩
        simp [Op.operands, Call.operands, readsOf, All, env, Is, Act.eval, N3, N4, N5, N6, N9, N150] at hr
        exact hr
      refine fwd_ce (e := .int .i64 ((nB : Nat) : Int)) rfl ⟨_, D20, by rintro g W h; simp [env, Is, N3, N4, N5, N6, N9, N150] at h; exact h⟩ ?_ ?_
      · rintro ρ W ⟨h1, h2, hW, hr⟩
        try simp [Op.operands, Call.operands, readsOf, All, env, Is, Act.eval, N3, N4, N5, N6, N9, N150] at hr
        refine ⟨22, #[sv B], ?_, hS2 _⟩
        go_simp
        try first | rfl | exact ⟨rfl, rfl⟩
      refine fwd_e (e := .int .i64 nT) rfl ⟨_, D20, by rintro g W h; simp [env, Is, N3, N4, N5, N6, N9, N150] at h; exact h⟩ ?_ ?_
      · rintro ρ W ⟨h1, h2, hW, hr⟩
        try simp [Op.operands, Call.operands, readsOf, All, env, Is, Act.eval, N3, N4, N5, N6, N9, N150] at hr
        skip
        go_simp
        try first | rfl | exact hadd1 | exact hadd2
      refine fwd_l rfl ?_ rfl ?_ hA Try.underlying24 rfl info24 ?_
      · exact ⟨_, D20, by rintro g W h; simp [env, Is, N3, N4, N5, N6, N9, N150] at h; exact h⟩
      · rintro ρ W ⟨_, _, _, hr⟩
        simp [Op.operands, Call.operands, readsOf, All, env, Is, Act.eval, N3, N4, N5, N6, N9, N150] at hr
        exact hr
      refine fwd_l rfl ?_ rfl ?_ hB Try.underlying24 rfl info24 ?_
      · exact ⟨_, D20, by rintro g W h; simp [env, Is, N3, N4, N5, N6, N9, N150] at h; exact h⟩
      · rintro ρ W ⟨_, _, _, hr⟩
        simp [Op.operands, Call.operands, readsOf, All, env, Is, Act.eval, N3, N4, N5, N6, N9, N150] at hr
        exact hr
      refine fwd_ce (e := sv (A ||| B)) rfl ⟨_, D20, by rintro g W h; simp [env, Is, N3, N4, N5, N6, N9, N150] at h; exact h⟩ ?_ ?_
      · rintro ρ W ⟨h1, h2, hW, hr⟩
        try simp [Op.operands, Call.operands, readsOf, All, env, Is, Act.eval, N3, N4, N5, N6, N9, N150] at hr
        refine ⟨16, #[sv A, sv B], ?_, or_any A B _⟩
        go_simp
        try first | rfl | exact ⟨rfl, rfl⟩
      refine fwd_ce (e := .int .i64 ((nU : Nat) : Int)) rfl ⟨_, D20, by rintro g W h; simp [env, Is, N3, N4, N5, N6, N9, N150] at h; exact h⟩ ?_ ?_
      · rintro ρ W ⟨h1, h2, hW, hr⟩
        try simp [Op.operands, Call.operands, readsOf, All, env, Is, Act.eval, N3, N4, N5, N6, N9, N150] at hr
        refine ⟨22, #[sv (A ||| B)], ?_, hS3 _⟩
        go_simp
        try first | rfl | exact ⟨rfl, rfl⟩
      refine fwd_l rfl ?_ rfl ?_ hA Try.underlying24 rfl info24 ?_
      · exact ⟨_, D20, by rintro g W h; simp [env, Is, N3, N4, N5, N6, N9, N150] at h; exact h⟩
      · rintro ρ W ⟨_, _, _, hr⟩
        simp [Op.operands, Call.operands, readsOf, All, env, Is, Act.eval, N3, N4, N5, N6, N9, N150] at hr
        exact hr
      refine fwd_l rfl ?_ rfl ?_ hB Try.underlying24 rfl info24 ?_
      · exact ⟨_, D20, by rintro g W h; simp [env, Is, N3, N4, N5, N6, N9, N150] at h; exact h⟩
      · rintro ρ W ⟨_, _, _, hr⟩
        simp [Op.operands, Call.operands, readsOf, All, env, Is, Act.eval, N3, N4, N5, N6, N9, N150] at hr
        exact hr
      refine fwd_ce (e := sv (A &&& B)) rfl ⟨_, D20, by rintro g W h; simp [env, Is, N3, N4, N5, N6, N9, N150] at h; exact h⟩ ?_ ?_
      · rintro ρ W ⟨h1, h2, hW, hr⟩
        try simp [Op.operands, Call.operands, readsOf, All, env, Is, Act.eval, N3, N4, N5, N6, N9, N150] at hr
        refine ⟨17, #[sv A, sv B], ?_, and_any A B _⟩
        go_simp
        try first | rfl | exact ⟨rfl, rfl⟩
      refine fwd_ce (e := .int .i64 ((nI : Nat) : Int)) rfl ⟨_, D20, by rintro g W h; simp [env, Is, N3, N4, N5, N6, N9, N150] at h; exact h⟩ ?_ ?_
      · rintro ρ W ⟨h1, h2, hW, hr⟩
        try simp [Op.operands, Call.operands, readsOf, All, env, Is, Act.eval, N3, N4, N5, N6, N9, N150] at hr
        refine ⟨22, #[sv (A &&& B)], ?_, hS4 _⟩
        go_simp
        try first | rfl | exact ⟨rfl, rfl⟩
      refine fwd_e (e := .int .i64 nT) rfl ⟨_, D20, by rintro g W h; simp [env, Is, N3, N4, N5, N6, N9, N150] at h; exact h⟩ ?_ ?_
      · rintro ρ W ⟨h1, h2, hW, hr⟩
        try simp [Op.operands, Call.operands, readsOf, All, env, Is, Act.eval, N3, N4, N5, N6, N9, N150] at hr
        skip
        go_simp
        try first | rfl | exact hadd1 | exact hadd2
      refine fwd_e (e := .bool true) rfl ⟨_, D20, by rintro g W h; simp [env, Is, N3, N4, N5, N6, N9, N150] at h; exact h⟩ ?_ ?_
      · rintro ρ W ⟨h1, h2, hW, hr⟩
        try simp [Op.operands, Call.operands, readsOf, All, env, Is, Act.eval, N3, N4, N5, N6, N9, N150] at hr
        go_simp
        try rfl
      refine fwd_e (e := .bool true) rfl trivial ?_ ?_
      · rintro ρ W ⟨h1, h2, hW, hr⟩
        try simp [Op.operands, Call.operands, readsOf, All, env, Is, Act.eval, N3, N4, N5, N6, N9, N150] at hr
        go_simp
        try rfl
      refine fwd_e (e := .bool true) rfl trivial ?_ ?_
      · rintro ρ W ⟨h1, h2, hW, hr⟩
        try simp [Op.operands, Call.operands, readsOf, All, env, Is, Act.eval, N3, N4, N5, N6, N9, N150] at hr
        go_simp
        try rfl
      refine fwd_forget [(3, .int .u8 x), (4, .pointer (some ⟨w.heap.size, 0, none⟩)), (5, .pointer (some ⟨w.heap.size + 1, 0, none⟩)), (6, .pointer (some ⟨w.heap.size + 1 + 1, 0, none⟩)), (9, .bool false), (167, .bool true)] (by simp [env, N3, N4, N5, N6, N9, N150]) ?_
      clear N3 N4 N5 N6 N9 N150
      intro acc hN
      simp only [List.forall_mem_cons] at hN
      obtain ⟨N3, N4, N5, N6, N9, N167, -⟩ := hN
      refine fwd_l rfl ?_ rfl ?_ hA Try.underlying24 rfl info24 ?_
      · exact ⟨_, D37, by rintro g W h; simp [env, Is, N3, N4, N5, N6, N9, N167] at h; exact h⟩
      · rintro ρ W ⟨_, _, _, hr⟩
        simp [Op.operands, Call.operands, readsOf, All, env, Is, Act.eval, N3, N4, N5, N6, N9, N167] at hr
        exact hr
      refine fwd_ce (e := sv (~~~A)) rfl ⟨_, D37, by rintro g W h; simp [env, Is, N3, N4, N5, N6, N9, N167] at h; exact h⟩ ?_ ?_
      · rintro ρ W ⟨h1, h2, hW, hr⟩
        try simp [Op.operands, Call.operands, readsOf, All, env, Is, Act.eval, N3, N4, N5, N6, N9, N167] at hr
        refine ⟨18, #[sv A], ?_, not_any A _⟩
        go_simp
        try first | rfl | exact ⟨rfl, rfl⟩
      refine fwd_e (e := .int .u8 x) rfl ⟨_, D37, by rintro g W h; simp [env, Is, N3, N4, N5, N6, N9, N167] at h; exact h⟩ ?_ ?_
      · rintro ρ W ⟨h1, h2, hW, hr⟩
        try simp [Op.operands, Call.operands, readsOf, All, env, Is, Act.eval, N3, N4, N5, N6, N9, N167] at hr
        go_simp
        try rfl
      refine fwd_ce (e := .bool true) rfl ⟨_, D37, by rintro g W h; simp [env, Is, N3, N4, N5, N6, N9, N167] at h; exact h⟩ ?_ ?_
      · rintro ρ W ⟨h1, h2, hW, hr⟩
        try simp [Op.operands, Call.operands, readsOf, All, env, Is, Act.eval, N3, N4, N5, N6, N9, N167] at hr
        refine ⟨14, #[sv (~~~A), .int .u8 x], ?_, hH2 _⟩
        go_simp
        try first | rfl | exact ⟨rfl, rfl⟩
      refine fwd_e (e := .bool false) rfl ⟨_, D37, by rintro g W h; simp [env, Is, N3, N4, N5, N6, N9, N167] at h; exact h⟩ ?_ ?_
      · rintro ρ W ⟨h1, h2, hW, hr⟩
        try simp [Op.operands, Call.operands, readsOf, All, env, Is, Act.eval, N3, N4, N5, N6, N9, N167] at hr
        go_simp
        try rfl
      refine fwd_e (e := .bool true) rfl ⟨_, D37, by rintro g W h; simp [env, Is, N3, N4, N5, N6, N9, N167] at h; exact h⟩ ?_ ?_
      · rintro ρ W ⟨h1, h2, hW, hr⟩
        try simp [Op.operands, Call.operands, readsOf, All, env, Is, Act.eval, N3, N4, N5, N6, N9, N167] at hr
        go_simp
        try rfl
      refine fwd_e (e := .bool true) rfl ⟨_, D37, by rintro g W h; simp [env, Is, N3, N4, N5, N6, N9, N167] at h; exact h⟩ ?_ ?_
      · rintro ρ W ⟨h1, h2, hW, hr⟩
        try simp [Op.operands, Call.operands, readsOf, All, env, Is, Act.eval, N3, N4, N5, N6, N9, N167] at hr
        go_simp
        try rfl
      refine fwd_e (e := .bool true) rfl trivial ?_ ?_
      · rintro ρ W ⟨h1, h2, hW, hr⟩
        try simp [Op.operands, Call.operands, readsOf, All, env, Is, Act.eval, N3, N4, N5, N6, N9, N167] at hr
        go_simp
        try rfl
      refine fwd_e (e := .bool true) rfl trivial ?_ ?_
      · rintro ρ W ⟨h1, h2, hW, hr⟩
        try simp [Op.operands, Call.operands, readsOf, All, env, Is, Act.eval, N3, N4, N5, N6, N9, N167] at hr
        go_simp
        try rfl
      refine fwd_forget [(3, .int .u8 x), (4, .pointer (some ⟨w.heap.size, 0, none⟩)), (5, .pointer (some ⟨w.heap.size + 1, 0, none⟩)), (6, .pointer (some ⟨w.heap.size + 1 + 1, 0, none⟩)), (9, .bool false), (176, .bool true)] (by simp [env, N3, N4, N5, N6, N9, N167]) ?_
      clear N3 N4 N5 N6 N9 N167
      intro acc hN
      simp only [List.forall_mem_cons] at hN
      obtain ⟨N3, N4, N5, N6, N9, N176, -⟩ := hN
      refine fwd_e (e := .int .u8 x) rfl ⟨_, D46, by rintro g W h; simp [env, Is, N3, N4, N5, N6, N9, N176] at h; exact h⟩ ?_ ?_
      · rintro ρ W ⟨h1, h2, hW, hr⟩
        try simp [Op.operands, Call.operands, readsOf, All, env, Is, Act.eval, N3, N4, N5, N6, N9, N176] at hr
        go_simp
        try rfl
      refine fwd_s #[.int .u8 (x : Int)] 1 5 rfl ⟨_, D46, by rintro g W h; simp [env, Is, N3, N4, N5, N6, N9, N176] at h; exact h⟩ ?_ ?_
      · rintro ρ W ⟨h1, h2, hW, hr⟩
        try simp [Op.operands, Call.operands, readsOf, All, env, Is, Act.eval, N3, N4, N5, N6, N9, N176] at hr
        go_simp
        try rfl
      refine fwd_ce (e := sv (ofS [x])) rfl ⟨_, D46, by rintro g W h; simp [env, Is, N3, N4, N5, N6, N9, N176] at h; exact h⟩ ?_ ?_
      · rintro ρ W ⟨h1, h2, hW, hr⟩
        try simp [Op.operands, Call.operands, readsOf, All, env, Is, Act.eval, N3, N4, N5, N6, N9, N176] at hr
        refine ⟨13, #[ρ (.tmp 178)], ?_, hofx _ _ hr⟩
        go_simp
        try rfl
      refine fwd_l rfl ?_ rfl ?_ hA Try.underlying24 rfl info24 ?_
      · exact ⟨_, D46, by rintro g W h; simp [env, Is, N3, N4, N5, N6, N9, N176] at h; exact h⟩
      · rintro ρ W ⟨_, _, _, hr⟩
        simp [Op.operands, Call.operands, readsOf, All, env, Is, Act.eval, N3, N4, N5, N6, N9, N176] at hr
        exact hr
      refine fwd_ce (e := .bool false) rfl ⟨_, D46, by rintro g W h; simp [env, Is, N3, N4, N5, N6, N9, N176] at h; exact h⟩ ?_ ?_
      · rintro ρ W ⟨h1, h2, hW, hr⟩
        try simp [Op.operands, Call.operands, readsOf, All, env, Is, Act.eval, N3, N4, N5, N6, N9, N176] at hr
        refine ⟨20, #[sv (ofS [x]), sv A], ?_, hW3 _⟩
        go_simp
        try first | rfl | exact ⟨rfl, rfl⟩
      refine fwd_e (e := .bool false) rfl ⟨_, D46, by rintro g W h; simp [env, Is, N3, N4, N5, N6, N9, N176] at h; exact h⟩ ?_ ?_
      · rintro ρ W ⟨h1, h2, hW, hr⟩
        try simp [Op.operands, Call.operands, readsOf, All, env, Is, Act.eval, N3, N4, N5, N6, N9, N176] at hr
        go_simp
        try rfl
      refine fwd_e (e := .bool true) rfl ⟨_, D46, by rintro g W h; simp [env, Is, N3, N4, N5, N6, N9, N176] at h; exact h⟩ ?_ ?_
      · rintro ρ W ⟨h1, h2, hW, hr⟩
        try simp [Op.operands, Call.operands, readsOf, All, env, Is, Act.eval, N3, N4, N5, N6, N9, N176] at hr
        go_simp
        try rfl
      refine fwd_e (e := .bool true) rfl trivial ?_ ?_
      · rintro ρ W ⟨h1, h2, hW, hr⟩
        try simp [Op.operands, Call.operands, readsOf, All, env, Is, Act.eval, N3, N4, N5, N6, N9, N176] at hr
        go_simp
        try rfl
      refine fwd_e (e := .bool true) rfl trivial ?_ ?_
      · rintro ρ W ⟨h1, h2, hW, hr⟩
        try simp [Op.operands, Call.operands, readsOf, All, env, Is, Act.eval, N3, N4, N5, N6, N9, N176] at hr
        go_simp
        try rfl
      refine fwd_forget [(3, .int .u8 x), (4, .pointer (some ⟨w.heap.size, 0, none⟩)), (5, .pointer (some ⟨w.heap.size + 1, 0, none⟩)), (6, .pointer (some ⟨w.heap.size + 1 + 1, 0, none⟩)), (9, .bool false), (185, .bool true)] (by simp [env, N3, N4, N5, N6, N9, N176]) ?_
      clear N3 N4 N5 N6 N9 N176
      intro acc hN
      simp only [List.forall_mem_cons] at hN
      obtain ⟨N3, N4, N5, N6, N9, N185, -⟩ := hN
      refine fwd_l rfl ?_ rfl ?_ hA Try.underlying24 rfl info24 ?_
      · exact ⟨_, D55, by rintro g W h; simp [env, Is, N3, N4, N5, N6, N9, N185] at h; exact h⟩
      · rintro ρ W ⟨_, _, _, hr⟩
        simp [Op.operands, Call.operands, readsOf, All, env, Is, Act.eval, N3, N4, N5, N6, N9, N185] at hr
        exact hr
      refine fwd_l rfl ?_ rfl ?_ hB Try.underlying24 rfl info24 ?_
      · exact ⟨_, D55, by rintro g W h; simp [env, Is, N3, N4, N5, N6, N9, N185] at h; exact h⟩
      · rintro ρ W ⟨_, _, _, hr⟩
        simp [Op.operands, Call.operands, readsOf, All, env, Is, Act.eval, N3, N4, N5, N6, N9, N185] at hr
        exact hr
      refine fwd_ce (e := sv (A ||| B)) rfl ⟨_, D55, by rintro g W h; simp [env, Is, N3, N4, N5, N6, N9, N185] at h; exact h⟩ ?_ ?_
      · rintro ρ W ⟨h1, h2, hW, hr⟩
        try simp [Op.operands, Call.operands, readsOf, All, env, Is, Act.eval, N3, N4, N5, N6, N9, N185] at hr
        refine ⟨16, #[sv A, sv B], ?_, or_any A B _⟩
        go_simp
        try first | rfl | exact ⟨rfl, rfl⟩
      refine fwd_e (e := .int .u8 x) rfl ⟨_, D55, by rintro g W h; simp [env, Is, N3, N4, N5, N6, N9, N185] at h; exact h⟩ ?_ ?_
      · rintro ρ W ⟨h1, h2, hW, hr⟩
        try simp [Op.operands, Call.operands, readsOf, All, env, Is, Act.eval, N3, N4, N5, N6, N9, N185] at hr
        go_simp
        try rfl
      refine fwd_ce (e := .bool bb) rfl ⟨_, D55, by rintro g W h; simp [env, Is, N3, N4, N5, N6, N9, N185] at h; exact h⟩ ?_ ?_
      · rintro ρ W ⟨h1, h2, hW, hr⟩
        try simp [Op.operands, Call.operands, readsOf, All, env, Is, Act.eval, N3, N4, N5, N6, N9, N185] at hr
        refine ⟨14, #[sv (A ||| B), .int .u8 x], ?_, hH3 _⟩
        go_simp
        try first | rfl | exact ⟨rfl, rfl⟩
      refine fwd_e (e := .bool false) rfl ⟨_, D55, by rintro g W h; simp [env, Is, N3, N4, N5, N6, N9, N185] at h; exact h⟩ ?_ ?_
      · rintro ρ W ⟨h1, h2, hW, hr⟩
        try simp [Op.operands, Call.operands, readsOf, All, env, Is, Act.eval, N3, N4, N5, N6, N9, N185] at hr
        go_simp
        try rfl
      refine fwd_e (e := .bool false) rfl ⟨_, D55, by rintro g W h; simp [env, Is, N3, N4, N5, N6, N9, N185] at h; exact h⟩ ?_ ?_
      · rintro ρ W ⟨h1, h2, hW, hr⟩
        try simp [Op.operands, Call.operands, readsOf, All, env, Is, Act.eval, N3, N4, N5, N6, N9, N185] at hr
        go_simp
        try rfl
      refine fwd_forget [(3, .int .u8 x), (4, .pointer (some ⟨w.heap.size, 0, none⟩)), (5, .pointer (some ⟨w.heap.size + 1, 0, none⟩)), (6, .pointer (some ⟨w.heap.size + 1 + 1, 0, none⟩)), (9, .bool false), (185, .bool true), (190, .bool bb), (192, .bool false)] (by simp [env, N3, N4, N5, N6, N9, N185]) ?_
      clear N3 N4 N5 N6 N9 N185
      intro acc hN
      simp only [List.forall_mem_cons] at hN
      obtain ⟨N3, N4, N5, N6, N9, N185, N190, N192, -⟩ := hN
      refine fwd_l rfl ?_ rfl ?_ hB Try.underlying24 rfl info24 ?_
      · exact ⟨_, D62, by rintro g W h; simp [env, Is, N3, N4, N5, N6, N9, N185, N190, N192] at h; exact h⟩
      · rintro ρ W ⟨_, _, _, hr⟩
        simp [Op.operands, Call.operands, readsOf, All, env, Is, Act.eval, N3, N4, N5, N6, N9, N185, N190, N192] at hr
        exact hr
      refine fwd_e (e := .int .u8 x) rfl ⟨_, D62, by rintro g W h; simp [env, Is, N3, N4, N5, N6, N9, N185, N190, N192] at h; exact h⟩ ?_ ?_
      · rintro ρ W ⟨h1, h2, hW, hr⟩
        try simp [Op.operands, Call.operands, readsOf, All, env, Is, Act.eval, N3, N4, N5, N6, N9, N185, N190, N192] at hr
        go_simp
        try rfl
      refine fwd_ce (e := .bool bb) rfl ⟨_, D62, by rintro g W h; simp [env, Is, N3, N4, N5, N6, N9, N185, N190, N192] at h; exact h⟩ ?_ ?_
      · rintro ρ W ⟨h1, h2, hW, hr⟩
        try simp [Op.operands, Call.operands, readsOf, All, env, Is, Act.eval, N3, N4, N5, N6, N9, N185, N190, N192] at hr
        refine ⟨14, #[sv B, .int .u8 x], ?_, hH4 _⟩
        go_simp
        try first | rfl | exact ⟨rfl, rfl⟩
      refine fwd_e (e := .bool bb) rfl ⟨_, D55, by rintro g W h; simp [env, Is, N3, N4, N5, N6, N9, N185, N190, N192] at h; exact h⟩ ?_ ?_
      · rintro ρ W ⟨h1, h2, hW, hr⟩
        try simp [Op.operands, Call.operands, readsOf, All, env, Is, Act.eval, N3, N4, N5, N6, N9, N185, N190, N192] at hr
        go_simp
        try rfl
      refine fwd_e (e := .bool true) rfl ⟨_, D55, by rintro g W h; simp [env, Is, N3, N4, N5, N6, N9, N185, N190, N192] at h; exact h⟩ ?_ ?_
      · rintro ρ W ⟨h1, h2, hW, hr⟩
        try simp [Op.operands, Call.operands, readsOf, All, env, Is, Act.eval, N3, N4, N5, N6, N9, N185, N190, N192] at hr
        go_simp
        try rfl
      refine fwd_e (e := .bool true) rfl trivial ?_ ?_
      · rintro ρ W ⟨h1, h2, hW, hr⟩
        try simp [Op.operands, Call.operands, readsOf, All, env, Is, Act.eval, N3, N4, N5, N6, N9, N185, N190, N192] at hr
        go_simp
        try rfl
      refine fwd_e (e := .bool true) rfl trivial ?_ ?_
      · rintro ρ W ⟨h1, h2, hW, hr⟩
        try simp [Op.operands, Call.operands, readsOf, All, env, Is, Act.eval, N3, N4, N5, N6, N9, N185, N190, N192] at hr
        go_simp
        try rfl
      refine fwd_nil (hfin _ ?_)
      simp [env, N3, N4, N5, N6, N9, N185, N190, N192]
    intro a4 w4 ha4 hd4 hs4 hg4
    simp only [List.forall_mem_cons] at hs4
    obtain ⟨e8, -⟩ := hs4
    show wpList _ _ _ ([] : List Oper) a4 w4
    go_wp2
    refine bodyPost_ret (v := .bool true) ?_ ?_ ⟨rfl, hE.trans (Ex.mono hg4 hE.size)⟩
    · rw [← e8]; exact results_tmp rfl _ _ _
    · exact hd4.trans hdf
end Go.Proofs.Ytjmhbbbpjbgmjaa

