/-
  rx: bounds, right.
-/
import Derived.Test.YtaocggpaiafeeaaZrxLight
set_option linter.unusedSimpArgs false
set_option linter.unusedVariables false
namespace Go.Ab
open Go Go.RowKit Go.Fwd Go.Proofs

/-- Whether a Repeat may have these bounds. -/
def boundsT (least most : Int) : Bool := !(decide (least < 0) || decide (least > 16) || decide (least = 1) && decide (most = 1)) && (decide (most = -1) || decide (most ≥ 1) && decide (most ≤ 16) && decide (most ≥ least))
theorem ent40 : Ent Try.prog 40 := enters_of Try.func40 (by kernel_rfl) rfl
set_option maxRecDepth 100000 in
set_option maxHeartbeats 2000000 in
theorem bounds_pure (least most : Int) : Pure (ITP Try.prog) Try.prog 40 [.raw (.int .i64 least), .raw (.int .i64 most)] (.raw (.bool (boundsT least most))) := by
  obtain ⟨d, hd⟩ : ∃ d, Try.f40.body = some d := ⟨_, rfl⟩
  refine pure_of mix Try.func40 hd ent40 ?_
  cases hd
  generalize hres : AV.raw (.bool (boundsT least most)) = res
  refine w_start (by dsimp only [abeginS, Try.f40, List.length_cons, List.length_nil, Nat.zero_add, Nat.reduceAdd, Nat.reduceSub, List.replicate, List.cons_append, List.nil_append]) (by dsimp only [St.empty]) ?_
  refine w_seq (w_region ?_)
  refine w_op (a := .raw (.bool false)) rfl rfl rfl rfl (by dsimp only [aput, List.set]) ?_  -- 4 := (assign (c (bool false)))
  refine w_seq ?_
  refine w_seq (w_region ?_)
  refine w_op rfl rfl rfl rfl (by dsimp only [aput, List.set]) ?_  -- 5 := (move (t 0))
  refine w_opb rfl rfl rfl rfl (by dsimp only [aput, List.set]) (by dsimp only [aput, List.set]) (fun h1 => ?_) (fun h1 => ?_)  -- 6 := (binOp Binlss 3 (t 5) (c (int i64 0)) 3)
  ·
    refine w_op (a := .raw (.bool true)) rfl rfl rfl rfl (by dsimp only [aput, List.set]) ?_  -- 7 := (move (t 6))
    refine w_pass rfl rfl (by decide) (by dsimp only [aput, List.set]) ?_
    refine w_pass rfl rfl (by decide) (by dsimp only [aput, List.set]) ?_
    refine w_op (a := .raw (.bool true)) rfl rfl rfl rfl (by dsimp only [aput, List.set]) ?_  -- 10 := (pick (t 7) (c (bool true)) (t 9))
    refine w_op (a := .raw (.bool true)) rfl rfl rfl rfl (by dsimp only [aput, List.set]) ?_  -- 11 := (move (t 10))
    refine w_pass rfl rfl (by decide) (by dsimp only [aput, List.set]) ?_
    refine w_pass rfl rfl (by decide) (by dsimp only [aput, List.set]) ?_
    refine w_pass rfl rfl (by decide) (by dsimp only [aput, List.set]) ?_
    refine w_pass rfl rfl (by decide) (by dsimp only [aput, List.set]) ?_
    refine w_pass rfl rfl (by decide) (by dsimp only [aput, List.set]) ?_
    refine w_pass rfl rfl (by decide) (by dsimp only [aput, List.set]) ?_
    refine w_op (a := .raw (.bool true)) rfl rfl rfl rfl (by dsimp only [aput, List.set]) ?_  -- 18 := (pick (t 11) (c (bool true)) (t 17))
    refine w_true rfl ?_
    refine w_seq (w_region ?_)
    refine w_op (a := .raw (.bool false)) rfl rfl rfl rfl (by dsimp only [aput, List.set]) ?_  -- 4 := (assign (c (bool false)))
    refine ⟨.raw (.bool false), by kernel_rfl, ends_strip rfl ?_⟩
    rw [← hres, show boundsT least most = false from by simp only [boundsT]; simp at h1; simp [*] <;> omega]; rfl
  ·
    refine w_op (a := .raw (.bool false)) rfl rfl rfl rfl (by dsimp only [aput, List.set]) ?_  -- 7 := (move (t 6))
    refine w_met rfl rfl ?_
    refine w_op rfl rfl rfl rfl (by dsimp only [aput, List.set]) ?_  -- 8 := (move (t 0))
    refine w_met rfl rfl ?_
    refine w_opb rfl rfl rfl rfl (by dsimp only [aput, List.set]) (by dsimp only [aput, List.set]) (fun h2 => ?_) (fun h2 => ?_)  -- 9 := (binOp Bingtr 3 (t 8) (c (int i64 16)) 3)
    ·
      refine w_op (a := .raw (.bool true)) rfl rfl rfl rfl (by dsimp only [aput, List.set]) ?_  -- 10 := (pick (t 7) (c (bool true)) (t 9))
      refine w_op (a := .raw (.bool true)) rfl rfl rfl rfl (by dsimp only [aput, List.set]) ?_  -- 11 := (move (t 10))
      refine w_pass rfl rfl (by decide) (by dsimp only [aput, List.set]) ?_
      refine w_pass rfl rfl (by decide) (by dsimp only [aput, List.set]) ?_
      refine w_pass rfl rfl (by decide) (by dsimp only [aput, List.set]) ?_
      refine w_pass rfl rfl (by decide) (by dsimp only [aput, List.set]) ?_
      refine w_pass rfl rfl (by decide) (by dsimp only [aput, List.set]) ?_
      refine w_pass rfl rfl (by decide) (by dsimp only [aput, List.set]) ?_
      refine w_op (a := .raw (.bool true)) rfl rfl rfl rfl (by dsimp only [aput, List.set]) ?_  -- 18 := (pick (t 11) (c (bool true)) (t 17))
      refine w_true rfl ?_
      refine w_seq (w_region ?_)
      refine w_op (a := .raw (.bool false)) rfl rfl rfl rfl (by dsimp only [aput, List.set]) ?_  -- 4 := (assign (c (bool false)))
      refine ⟨.raw (.bool false), by kernel_rfl, ends_strip rfl ?_⟩
      rw [← hres, show boundsT least most = false from by simp only [boundsT]; simp at h1 h2; simp [*] <;> omega]; rfl
    ·
      refine w_op (a := .raw (.bool false)) rfl rfl rfl rfl (by dsimp only [aput, List.set]) ?_  -- 10 := (pick (t 7) (c (bool true)) (t 9))
      refine w_op (a := .raw (.bool false)) rfl rfl rfl rfl (by dsimp only [aput, List.set]) ?_  -- 11 := (move (t 10))
      refine w_met rfl rfl ?_
      refine w_op rfl rfl rfl rfl (by dsimp only [aput, List.set]) ?_  -- 12 := (move (t 0))
      refine w_met rfl rfl ?_
      refine w_opb rfl rfl rfl rfl (by dsimp only [aput, List.set]) (by dsimp only [aput, List.set]) (fun h3 => ?_) (fun h3 => ?_)  -- 13 := (binOp Bineql 3 (t 12) (c (int i64 1)) 3)
      ·
        refine w_met rfl rfl ?_
        refine w_op (a := .raw (.bool true)) rfl rfl rfl rfl (by dsimp only [aput, List.set]) ?_  -- 14 := (move (t 13))
        refine w_met rfl rfl ?_
        refine w_op rfl rfl rfl rfl (by dsimp only [aput, List.set]) ?_  -- 15 := (move (t 1))
        refine w_met rfl rfl ?_
        refine w_opb rfl rfl rfl rfl (by dsimp only [aput, List.set]) (by dsimp only [aput, List.set]) (fun h4 => ?_) (fun h4 => ?_)  -- 16 := (binOp Bineql 3 (t 15) (c (int i64 1)) 3)
        ·
          refine w_met rfl rfl ?_
          refine w_op (a := .raw (.bool true)) rfl rfl rfl rfl (by dsimp only [aput, List.set]) ?_  -- 17 := (pick (t 14) (t 16) (c (bool false)))
          refine w_op (a := .raw (.bool true)) rfl rfl rfl rfl (by dsimp only [aput, List.set]) ?_  -- 18 := (pick (t 11) (c (bool true)) (t 17))
          refine w_true rfl ?_
          refine w_seq (w_region ?_)
          refine w_op (a := .raw (.bool false)) rfl rfl rfl rfl (by dsimp only [aput, List.set]) ?_  -- 4 := (assign (c (bool false)))
          refine ⟨.raw (.bool false), by kernel_rfl, ends_strip rfl ?_⟩
          rw [← hres, show boundsT least most = false from by simp only [boundsT]; simp at h1 h2 h3 h4; simp [*] <;> omega]; rfl
        ·
          refine w_met rfl rfl ?_
          refine w_op (a := .raw (.bool false)) rfl rfl rfl rfl (by dsimp only [aput, List.set]) ?_  -- 17 := (pick (t 14) (t 16) (c (bool false)))
          refine w_op (a := .raw (.bool false)) rfl rfl rfl rfl (by dsimp only [aput, List.set]) ?_  -- 18 := (pick (t 11) (c (bool true)) (t 17))
          refine w_false rfl ?_
          refine w_seq (w_region ?_)
          refine w_op rfl rfl rfl rfl (by dsimp only [aput, List.set]) ?_  -- 19 := (move (t 1))
          refine w_opb rfl rfl rfl rfl (by dsimp only [aput, List.set]) (by dsimp only [aput, List.set]) (fun h5 => ?_) (fun h5 => ?_)  -- 20 := (binOp Bineql 3 (t 19) (c (int i64 -1)) 3)
          ·
            refine w_op (a := .raw (.bool true)) rfl rfl rfl rfl (by dsimp only [aput, List.set]) ?_  -- 21 := (move (t 20))
            refine w_pass rfl rfl (by decide) (by dsimp only [aput, List.set]) ?_
            refine w_pass rfl rfl (by decide) (by dsimp only [aput, List.set]) ?_
            refine w_pass rfl rfl (by decide) (by dsimp only [aput, List.set]) ?_
            refine w_pass rfl rfl (by decide) (by dsimp only [aput, List.set]) ?_
            refine w_pass rfl rfl (by decide) (by dsimp only [aput, List.set]) ?_
            refine w_pass rfl rfl (by decide) (by dsimp only [aput, List.set]) ?_
            refine w_pass rfl rfl (by decide) (by dsimp only [aput, List.set]) ?_
            refine w_pass rfl rfl (by decide) (by dsimp only [aput, List.set]) ?_
            refine w_pass rfl rfl (by decide) (by dsimp only [aput, List.set]) ?_
            refine w_pass rfl rfl (by decide) (by dsimp only [aput, List.set]) ?_
            refine w_pass rfl rfl (by decide) (by dsimp only [aput, List.set]) ?_
            refine w_op (a := .raw (.bool true)) rfl rfl rfl rfl (by dsimp only [aput, List.set]) ?_  -- 33 := (pick (t 21) (c (bool true)) (t 32))
            refine w_op (a := .raw (.bool true)) rfl rfl rfl rfl (by dsimp only [aput, List.set]) ?_  -- 4 := (assign (t 33))
            refine ⟨.raw (.bool true), by kernel_rfl, ends_strip rfl ?_⟩
            rw [← hres, show boundsT least most = true from by simp only [boundsT]; simp at h1 h2 h3 h4 h5; simp [*] <;> omega]; rfl
          ·
            refine w_op (a := .raw (.bool false)) rfl rfl rfl rfl (by dsimp only [aput, List.set]) ?_  -- 21 := (move (t 20))
            refine w_met rfl rfl ?_
            refine w_op rfl rfl rfl rfl (by dsimp only [aput, List.set]) ?_  -- 22 := (move (t 1))
            refine w_met rfl rfl ?_
            refine w_opb rfl rfl rfl rfl (by dsimp only [aput, List.set]) (by dsimp only [aput, List.set]) (fun h6 => ?_) (fun h6 => ?_)  -- 23 := (binOp Bingeq 3 (t 22) (c (int i64 1)) 3)
            ·
              refine w_met rfl rfl ?_
              refine w_op (a := .raw (.bool true)) rfl rfl rfl rfl (by dsimp only [aput, List.set]) ?_  -- 24 := (move (t 23))
              refine w_met rfl rfl ?_
              refine w_op rfl rfl rfl rfl (by dsimp only [aput, List.set]) ?_  -- 25 := (move (t 1))
              refine w_met rfl rfl ?_
              refine w_opb rfl rfl rfl rfl (by dsimp only [aput, List.set]) (by dsimp only [aput, List.set]) (fun h7 => ?_) (fun h7 => ?_)  -- 26 := (binOp Binleq 3 (t 25) (c (int i64 16)) 3)
              ·
                refine w_met rfl rfl ?_
                refine w_op (a := .raw (.bool true)) rfl rfl rfl rfl (by dsimp only [aput, List.set]) ?_  -- 27 := (pick (t 24) (t 26) (c (bool false)))
                refine w_met rfl rfl ?_
                refine w_op (a := .raw (.bool true)) rfl rfl rfl rfl (by dsimp only [aput, List.set]) ?_  -- 28 := (move (t 27))
                refine w_met rfl rfl ?_
                refine w_op rfl rfl rfl rfl (by dsimp only [aput, List.set]) ?_  -- 29 := (move (t 1))
                refine w_met rfl rfl ?_
                refine w_op rfl rfl rfl rfl (by dsimp only [aput, List.set]) ?_  -- 30 := (move (t 0))
                refine w_met rfl rfl ?_
                refine w_opb rfl rfl rfl rfl (by dsimp only [aput, List.set]) (by dsimp only [aput, List.set]) (fun h8 => ?_) (fun h8 => ?_)  -- 31 := (binOp Bingeq 3 (t 29) (t 30) 3)
                ·
                  refine w_met rfl rfl ?_
                  refine w_op (a := .raw (.bool true)) rfl rfl rfl rfl (by dsimp only [aput, List.set]) ?_  -- 32 := (pick (t 28) (t 31) (c (bool false)))
                  refine w_op (a := .raw (.bool true)) rfl rfl rfl rfl (by dsimp only [aput, List.set]) ?_  -- 33 := (pick (t 21) (c (bool true)) (t 32))
                  refine w_op (a := .raw (.bool true)) rfl rfl rfl rfl (by dsimp only [aput, List.set]) ?_  -- 4 := (assign (t 33))
                  refine ⟨.raw (.bool true), by kernel_rfl, ends_strip rfl ?_⟩
                  rw [← hres, show boundsT least most = true from by simp only [boundsT]; simp at h1 h2 h3 h4 h5 h6 h7 h8; simp [*] <;> omega]; rfl
                ·
                  refine w_met rfl rfl ?_
                  refine w_op (a := .raw (.bool false)) rfl rfl rfl rfl (by dsimp only [aput, List.set]) ?_  -- 32 := (pick (t 28) (t 31) (c (bool false)))
                  refine w_op (a := .raw (.bool false)) rfl rfl rfl rfl (by dsimp only [aput, List.set]) ?_  -- 33 := (pick (t 21) (c (bool true)) (t 32))
                  refine w_op (a := .raw (.bool false)) rfl rfl rfl rfl (by dsimp only [aput, List.set]) ?_  -- 4 := (assign (t 33))
                  refine ⟨.raw (.bool false), by kernel_rfl, ends_strip rfl ?_⟩
                  rw [← hres, show boundsT least most = false from by simp only [boundsT]; simp at h1 h2 h3 h4 h5 h6 h7 h8; simp [*] <;> omega]; rfl
              ·
                refine w_met rfl rfl ?_
                refine w_op (a := .raw (.bool false)) rfl rfl rfl rfl (by dsimp only [aput, List.set]) ?_  -- 27 := (pick (t 24) (t 26) (c (bool false)))
                refine w_met rfl rfl ?_
                refine w_op (a := .raw (.bool false)) rfl rfl rfl rfl (by dsimp only [aput, List.set]) ?_  -- 28 := (move (t 27))
                refine w_pass rfl rfl (by decide) (by dsimp only [aput, List.set]) ?_
                refine w_pass rfl rfl (by decide) (by dsimp only [aput, List.set]) ?_
                refine w_pass rfl rfl (by decide) (by dsimp only [aput, List.set]) ?_
                refine w_met rfl rfl ?_
                refine w_op (a := .raw (.bool false)) rfl rfl rfl rfl (by dsimp only [aput, List.set]) ?_  -- 32 := (pick (t 28) (t 31) (c (bool false)))
                refine w_op (a := .raw (.bool false)) rfl rfl rfl rfl (by dsimp only [aput, List.set]) ?_  -- 33 := (pick (t 21) (c (bool true)) (t 32))
                refine w_op (a := .raw (.bool false)) rfl rfl rfl rfl (by dsimp only [aput, List.set]) ?_  -- 4 := (assign (t 33))
                refine ⟨.raw (.bool false), by kernel_rfl, ends_strip rfl ?_⟩
                rw [← hres, show boundsT least most = false from by simp only [boundsT]; simp at h1 h2 h3 h4 h5 h6 h7; simp [*] <;> omega]; rfl
            ·
              refine w_met rfl rfl ?_
              refine w_op (a := .raw (.bool false)) rfl rfl rfl rfl (by dsimp only [aput, List.set]) ?_  -- 24 := (move (t 23))
              refine w_pass rfl rfl (by decide) (by dsimp only [aput, List.set]) ?_
              refine w_pass rfl rfl (by decide) (by dsimp only [aput, List.set]) ?_
              refine w_met rfl rfl ?_
              refine w_op (a := .raw (.bool false)) rfl rfl rfl rfl (by dsimp only [aput, List.set]) ?_  -- 27 := (pick (t 24) (t 26) (c (bool false)))
              refine w_met rfl rfl ?_
              refine w_op (a := .raw (.bool false)) rfl rfl rfl rfl (by dsimp only [aput, List.set]) ?_  -- 28 := (move (t 27))
              refine w_pass rfl rfl (by decide) (by dsimp only [aput, List.set]) ?_
              refine w_pass rfl rfl (by decide) (by dsimp only [aput, List.set]) ?_
              refine w_pass rfl rfl (by decide) (by dsimp only [aput, List.set]) ?_
              refine w_met rfl rfl ?_
              refine w_op (a := .raw (.bool false)) rfl rfl rfl rfl (by dsimp only [aput, List.set]) ?_  -- 32 := (pick (t 28) (t 31) (c (bool false)))
              refine w_op (a := .raw (.bool false)) rfl rfl rfl rfl (by dsimp only [aput, List.set]) ?_  -- 33 := (pick (t 21) (c (bool true)) (t 32))
              refine w_op (a := .raw (.bool false)) rfl rfl rfl rfl (by dsimp only [aput, List.set]) ?_  -- 4 := (assign (t 33))
              refine ⟨.raw (.bool false), by kernel_rfl, ends_strip rfl ?_⟩
              rw [← hres, show boundsT least most = false from by simp only [boundsT]; simp at h1 h2 h3 h4 h5 h6; simp [*] <;> omega]; rfl
      ·
        refine w_met rfl rfl ?_
        refine w_op (a := .raw (.bool false)) rfl rfl rfl rfl (by dsimp only [aput, List.set]) ?_  -- 14 := (move (t 13))
        refine w_pass rfl rfl (by decide) (by dsimp only [aput, List.set]) ?_
        refine w_pass rfl rfl (by decide) (by dsimp only [aput, List.set]) ?_
        refine w_met rfl rfl ?_
        refine w_op (a := .raw (.bool false)) rfl rfl rfl rfl (by dsimp only [aput, List.set]) ?_  -- 17 := (pick (t 14) (t 16) (c (bool false)))
        refine w_op (a := .raw (.bool false)) rfl rfl rfl rfl (by dsimp only [aput, List.set]) ?_  -- 18 := (pick (t 11) (c (bool true)) (t 17))
        refine w_false rfl ?_
        refine w_seq (w_region ?_)
        refine w_op rfl rfl rfl rfl (by dsimp only [aput, List.set]) ?_  -- 19 := (move (t 1))
        refine w_opb rfl rfl rfl rfl (by dsimp only [aput, List.set]) (by dsimp only [aput, List.set]) (fun h9 => ?_) (fun h9 => ?_)  -- 20 := (binOp Bineql 3 (t 19) (c (int i64 -1)) 3)
        ·
          refine w_op (a := .raw (.bool true)) rfl rfl rfl rfl (by dsimp only [aput, List.set]) ?_  -- 21 := (move (t 20))
          refine w_pass rfl rfl (by decide) (by dsimp only [aput, List.set]) ?_
          refine w_pass rfl rfl (by decide) (by dsimp only [aput, List.set]) ?_
          refine w_pass rfl rfl (by decide) (by dsimp only [aput, List.set]) ?_
          refine w_pass rfl rfl (by decide) (by dsimp only [aput, List.set]) ?_
          refine w_pass rfl rfl (by decide) (by dsimp only [aput, List.set]) ?_
          refine w_pass rfl rfl (by decide) (by dsimp only [aput, List.set]) ?_
          refine w_pass rfl rfl (by decide) (by dsimp only [aput, List.set]) ?_
          refine w_pass rfl rfl (by decide) (by dsimp only [aput, List.set]) ?_
          refine w_pass rfl rfl (by decide) (by dsimp only [aput, List.set]) ?_
          refine w_pass rfl rfl (by decide) (by dsimp only [aput, List.set]) ?_
          refine w_pass rfl rfl (by decide) (by dsimp only [aput, List.set]) ?_
          refine w_op (a := .raw (.bool true)) rfl rfl rfl rfl (by dsimp only [aput, List.set]) ?_  -- 33 := (pick (t 21) (c (bool true)) (t 32))
          refine w_op (a := .raw (.bool true)) rfl rfl rfl rfl (by dsimp only [aput, List.set]) ?_  -- 4 := (assign (t 33))
          refine ⟨.raw (.bool true), by kernel_rfl, ends_strip rfl ?_⟩
          rw [← hres, show boundsT least most = true from by simp only [boundsT]; simp at h1 h2 h3 h9; simp [*] <;> omega]; rfl
        ·
          refine w_op (a := .raw (.bool false)) rfl rfl rfl rfl (by dsimp only [aput, List.set]) ?_  -- 21 := (move (t 20))
          refine w_met rfl rfl ?_
          refine w_op rfl rfl rfl rfl (by dsimp only [aput, List.set]) ?_  -- 22 := (move (t 1))
          refine w_met rfl rfl ?_
          refine w_opb rfl rfl rfl rfl (by dsimp only [aput, List.set]) (by dsimp only [aput, List.set]) (fun h10 => ?_) (fun h10 => ?_)  -- 23 := (binOp Bingeq 3 (t 22) (c (int i64 1)) 3)
          ·
            refine w_met rfl rfl ?_
            refine w_op (a := .raw (.bool true)) rfl rfl rfl rfl (by dsimp only [aput, List.set]) ?_  -- 24 := (move (t 23))
            refine w_met rfl rfl ?_
            refine w_op rfl rfl rfl rfl (by dsimp only [aput, List.set]) ?_  -- 25 := (move (t 1))
            refine w_met rfl rfl ?_
            refine w_opb rfl rfl rfl rfl (by dsimp only [aput, List.set]) (by dsimp only [aput, List.set]) (fun h11 => ?_) (fun h11 => ?_)  -- 26 := (binOp Binleq 3 (t 25) (c (int i64 16)) 3)
            ·
              refine w_met rfl rfl ?_
              refine w_op (a := .raw (.bool true)) rfl rfl rfl rfl (by dsimp only [aput, List.set]) ?_  -- 27 := (pick (t 24) (t 26) (c (bool false)))
              refine w_met rfl rfl ?_
              refine w_op (a := .raw (.bool true)) rfl rfl rfl rfl (by dsimp only [aput, List.set]) ?_  -- 28 := (move (t 27))
              refine w_met rfl rfl ?_
              refine w_op rfl rfl rfl rfl (by dsimp only [aput, List.set]) ?_  -- 29 := (move (t 1))
              refine w_met rfl rfl ?_
              refine w_op rfl rfl rfl rfl (by dsimp only [aput, List.set]) ?_  -- 30 := (move (t 0))
              refine w_met rfl rfl ?_
              refine w_opb rfl rfl rfl rfl (by dsimp only [aput, List.set]) (by dsimp only [aput, List.set]) (fun h12 => ?_) (fun h12 => ?_)  -- 31 := (binOp Bingeq 3 (t 29) (t 30) 3)
              ·
                refine w_met rfl rfl ?_
                refine w_op (a := .raw (.bool true)) rfl rfl rfl rfl (by dsimp only [aput, List.set]) ?_  -- 32 := (pick (t 28) (t 31) (c (bool false)))
                refine w_op (a := .raw (.bool true)) rfl rfl rfl rfl (by dsimp only [aput, List.set]) ?_  -- 33 := (pick (t 21) (c (bool true)) (t 32))
                refine w_op (a := .raw (.bool true)) rfl rfl rfl rfl (by dsimp only [aput, List.set]) ?_  -- 4 := (assign (t 33))
                refine ⟨.raw (.bool true), by kernel_rfl, ends_strip rfl ?_⟩
                rw [← hres, show boundsT least most = true from by simp only [boundsT]; simp at h1 h2 h3 h9 h10 h11 h12; simp [*] <;> omega]; rfl
              ·
                refine w_met rfl rfl ?_
                refine w_op (a := .raw (.bool false)) rfl rfl rfl rfl (by dsimp only [aput, List.set]) ?_  -- 32 := (pick (t 28) (t 31) (c (bool false)))
                refine w_op (a := .raw (.bool false)) rfl rfl rfl rfl (by dsimp only [aput, List.set]) ?_  -- 33 := (pick (t 21) (c (bool true)) (t 32))
                refine w_op (a := .raw (.bool false)) rfl rfl rfl rfl (by dsimp only [aput, List.set]) ?_  -- 4 := (assign (t 33))
                refine ⟨.raw (.bool false), by kernel_rfl, ends_strip rfl ?_⟩
                rw [← hres, show boundsT least most = false from by simp only [boundsT]; simp at h1 h2 h3 h9 h10 h11 h12; simp [*] <;> omega]; rfl
            ·
              refine w_met rfl rfl ?_
              refine w_op (a := .raw (.bool false)) rfl rfl rfl rfl (by dsimp only [aput, List.set]) ?_  -- 27 := (pick (t 24) (t 26) (c (bool false)))
              refine w_met rfl rfl ?_
              refine w_op (a := .raw (.bool false)) rfl rfl rfl rfl (by dsimp only [aput, List.set]) ?_  -- 28 := (move (t 27))
              refine w_pass rfl rfl (by decide) (by dsimp only [aput, List.set]) ?_
              refine w_pass rfl rfl (by decide) (by dsimp only [aput, List.set]) ?_
              refine w_pass rfl rfl (by decide) (by dsimp only [aput, List.set]) ?_
              refine w_met rfl rfl ?_
              refine w_op (a := .raw (.bool false)) rfl rfl rfl rfl (by dsimp only [aput, List.set]) ?_  -- 32 := (pick (t 28) (t 31) (c (bool false)))
              refine w_op (a := .raw (.bool false)) rfl rfl rfl rfl (by dsimp only [aput, List.set]) ?_  -- 33 := (pick (t 21) (c (bool true)) (t 32))
              refine w_op (a := .raw (.bool false)) rfl rfl rfl rfl (by dsimp only [aput, List.set]) ?_  -- 4 := (assign (t 33))
              refine ⟨.raw (.bool false), by kernel_rfl, ends_strip rfl ?_⟩
              rw [← hres, show boundsT least most = false from by simp only [boundsT]; simp at h1 h2 h3 h9 h10 h11; simp [*] <;> omega]; rfl
          ·
            refine w_met rfl rfl ?_
            refine w_op (a := .raw (.bool false)) rfl rfl rfl rfl (by dsimp only [aput, List.set]) ?_  -- 24 := (move (t 23))
            refine w_pass rfl rfl (by decide) (by dsimp only [aput, List.set]) ?_
            refine w_pass rfl rfl (by decide) (by dsimp only [aput, List.set]) ?_
            refine w_met rfl rfl ?_
            refine w_op (a := .raw (.bool false)) rfl rfl rfl rfl (by dsimp only [aput, List.set]) ?_  -- 27 := (pick (t 24) (t 26) (c (bool false)))
            refine w_met rfl rfl ?_
            refine w_op (a := .raw (.bool false)) rfl rfl rfl rfl (by dsimp only [aput, List.set]) ?_  -- 28 := (move (t 27))
            refine w_pass rfl rfl (by decide) (by dsimp only [aput, List.set]) ?_
            refine w_pass rfl rfl (by decide) (by dsimp only [aput, List.set]) ?_
            refine w_pass rfl rfl (by decide) (by dsimp only [aput, List.set]) ?_
            refine w_met rfl rfl ?_
            refine w_op (a := .raw (.bool false)) rfl rfl rfl rfl (by dsimp only [aput, List.set]) ?_  -- 32 := (pick (t 28) (t 31) (c (bool false)))
            refine w_op (a := .raw (.bool false)) rfl rfl rfl rfl (by dsimp only [aput, List.set]) ?_  -- 33 := (pick (t 21) (c (bool true)) (t 32))
            refine w_op (a := .raw (.bool false)) rfl rfl rfl rfl (by dsimp only [aput, List.set]) ?_  -- 4 := (assign (t 33))
            refine ⟨.raw (.bool false), by kernel_rfl, ends_strip rfl ?_⟩
            rw [← hres, show boundsT least most = false from by simp only [boundsT]; simp at h1 h2 h3 h9 h10; simp [*] <;> omega]; rfl
end Go.Ab
