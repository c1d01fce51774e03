/-
  The examples of the chapter, computed.
-/
import Derived.Test.YtjmhbbbpjbgmjaaZseParts
import Derived.Test.YtjmhbbbpjbgmjaaZseFrom
set_option linter.unusedSimpArgs false
set_option linter.unusedVariables false
namespace Go.Proofs.Ytjmhbbbpjbgmjaa
open Go.RowKit Go.Fwd Go.Shelf Go.Proofs

theorem ex_size : (bytesOf (rangeS 97 99)).length = 3 := by decide +kernel
theorem ex_spans1 : spansOf (rangeS 97 99) = [(97, 99)] := by decide +kernel
theorem ex_spans2 : spansOf (rangeS 97 99 &&& ~~~ofS [98]) = [(97, 97), (99, 99)] := by decide +kernel
theorem ex_next1 : firstOf (ofS [99, 97, 99] &&& rangeS (97 + 1) 255) = some 99 := by decide +kernel
theorem ex_next2 : firstOf (ofS [99, 97, 99] &&& rangeS (99 + 1) 255) = none := by decide +kernel
theorem ex_bytes : bytesOf (ofS [99, 97, 99]) = [97, 99] := by decide +kernel
theorem ex_not : ~~~(BitVec.allOnes 256) = 0#256 := by decide +kernel
theorem ex_cmp1 : cmpS (ofS [97]) (ofS [98]) = -1 := by decide +kernel
theorem ex_cmp2 : cmpS (ofS [97, 98]) (ofS [97]) = -1 := by decide +kernel
theorem ex_cmp3 : cmpS 0#256 (ofS [97]) = 1 := by decide +kernel
theorem ex_partsU : partsU [rangeS 97 99, rangeS 98 100] = [ofS [98, 99], ofS [97], ofS [100], rangeS 0 96 ||| rangeS 101 255] := by decide +kernel
theorem ex_parts : partsS [rangeS 97 99, rangeS 98 100] = [rangeS 0 96 ||| rangeS 101 255, ofS [97], ofS [98, 99], ofS [100]] := by
  unfold partsS
  rw [ex_partsU]
  refine sortS_unique ?_ ?_
  · decide +kernel
  · have h : ∀ A B : BS, cmpS A B < 0 → A = B ∨ ltS A B := fun A B h => .inr (cmpS_lt.1 h)
    refine List.Pairwise.cons ?_ (List.Pairwise.cons ?_ (List.Pairwise.cons ?_ (List.Pairwise.cons ?_ List.Pairwise.nil)))
    all_goals intro B hB; refine h _ _ ?_
    · rcases List.mem_cons.1 hB with rfl | hB
      · decide +kernel
      rcases List.mem_cons.1 hB with rfl | hB
      · decide +kernel
      rcases List.mem_cons.1 hB with rfl | hB
      · decide +kernel
      cases hB
    · rcases List.mem_cons.1 hB with rfl | hB
      · decide +kernel
      rcases List.mem_cons.1 hB with rfl | hB
      · decide +kernel
      cases hB
    · rcases List.mem_cons.1 hB with rfl | hB
      · decide +kernel
      cases hB
    · cases hB
end Go.Proofs.Ytjmhbbbpjbgmjaa
