/-
  The contract of sets.Parts, with the room of what it hands back.
-/
import Derived.Test.YtjmhbbbpjbgmjaaZseParts
set_option linter.unusedSimpArgs false
set_option linter.unusedVariables false
namespace Go.Proofs.Ytjmhbbbpjbgmjaa
open Go.RowKit Go.Fwd Go.Shelf Go.Proofs

set_option maxRecDepth 100000 in
set_option maxHeartbeats 2000000 in
theorem parts_new2 (l : List BS) (hlen : l.length ≤ 12) (v : Value) (w : World) (hv : ∃ a cap, v = .slice a l.length cap ∧ (0 < l.length → ∃ b o, a = some ⟨b, o, none⟩ ∧ b < w.heap.size ∧ ∀ (i : Nat) (x : Value), (setC l)[i]? = some x → w.cell? ⟨b, o + i, none⟩ = some x)) :
    Calls Try.prog 23 #[v] w (RetV (fun v W => SlAt (partsS l).length (setC (partsS l)) v W ∧ ∃ g cap, v = .slice (some ⟨g, 0, none⟩) (partsS l).length cap ∧ w.heap.size ≤ g ∧ (partsS l).length ≤ cap) w) := by
  obtain ⟨i0, hi0, hz0, hz1, hz2⟩ := info_parts info24'
  obtain ⟨a0, cap0, rfl, hat⟩ := hv
  have hall := all_any
  obtain ⟨A1, hA1⟩ : ∃ A, A = BitVec.allOnes 256 := ⟨_, rfl⟩
  rw [← hA1] at hall
  have HA := Lib.hid hA1
  clear hA1
  unfold sv at hall
  go_enter Try.func23, Try.ntmps23
  go_wp2_with (go_at_call 19; refine (hall _).mono ?_; rintro e w1 ⟨rfl, hb1⟩)
  go_loopw [3, 15] (fun pv i wr => ∃ (k g cap : Nat), k ≤ l.length ∧ i = .int .i64 k ∧ pv = .slice (some ⟨g, 0, none⟩) (partsU (l.take k)).length cap ∧
      wr.ownsRow w.heap.size 24 4 (.slice (some ⟨g, 0, none⟩) (partsU (l.take k)).length cap) (partsU (l.take k)).length (setC (partsU (l.take k))) ∧ Ex w.heap.size w wr) (fun _ i _ => l.length - (intOf i).toNat)
  case atStart =>
    refine ⟨0, w1.heap.size, 1, Nat.zero_le _, rfl, rfl, ?_, hb1.alloc hb1.size _⟩
    have := owns_new A1 w1 w.heap.size hb1.size
    rw [HA.out] at this ⊢
    exact this
  case round =>
    obtain ⟨k, g, cap, hk, rfl, rfl, hown, hex⟩ := hrel
    obtain ⟨wo, hwo⟩ : ∃ x, x = wr := ⟨wr, rfl⟩
    subst hwo
    by_cases hlt : k < l.length
    · obtain ⟨b, o, rfl, hb, hc⟩ := hat (by omega)
      obtain ⟨S, hS⟩ : ∃ S, l[k]? = some S := ⟨l[k], by simp [hlt]⟩
      obtain ⟨d0, d1, d2, d3⟩ := set_cells (fun i x hx => (hex.cell (p := ⟨b, o + i, none⟩) hb).trans (hc i x hx)) k S hS
      have hpl : (partsU (l.take k)).length ≤ 2 ^ 12 := Nat.le_trans (partsU_len _) (Nat.pow_le_pow_right (by omega) (by simp; omega))
      have hsn : partsU (l.take (k + 1)) = stepS S (partsU (l.take k)) := by
        rw [← partsU_snoc]; congr 1
        rw [List.take_add_one, hS]; rfl
      generalize partsU (l.take k) = L at *
      have HSN := Lib.hid hsn
      clear hsn hc
      have hgs : g < wo.heap.size := by
        rcases hown.2 with ⟨h, _⟩ | ⟨g', _, _, h, _, hg, _⟩
        · cases h
        · cases h; exact (Array.getElem?_eq_some_iff.1 hg).1
      have hLC : ∀ (i : Nat) (x : Value), (setC L)[i]? = some x → wo.cell? ⟨g, 0 + i, none⟩ = some x := by
        rcases slAt_of_owns hown with ⟨h, _⟩ | ⟨b', o', cap', h, _, hc⟩
        · cases h
        · cases h; exact hc
      go_wp2
      obtain ⟨w2, hw2⟩ : ∃ w2, w2 = wo.alloc (.cells (sc S) 24) := ⟨_, rfl⟩
      have hrS : w2.heap[wo.heap.size]? = some (.cells (sc S) 24 (0, 0)) := by rw [hw2]; exact heap_new _ _ _ rfl
      have hE2 : Ex wo.heap.size wo w2 := by rw [hw2]; exact (Ex.refl _ _).alloc (Nat.le_refl _) _
      have hs2 : w2.heap.size = wo.heap.size + 1 := by rw [hw2]; simp
      show Code.wp _ _ _ _ (wo.alloc (.cells (sc S) 24))
      rw [← hw2]
      clear hw2 d0 d1 d2 d3
      go_loopw [6, 21] (fun nv i wm => ∃ (m : Nat), m ≤ L.length ∧ i = .int .i64 m ∧ wm.ownsRow (wo.heap.size + 1) 24 4 nv (stepS S (L.take m)).length (setC (stepS S (L.take m))) ∧ Ex (wo.heap.size + 1) w2 wm) (fun _ i _ => L.length - (intOf i).toNat)
      case atStart =>
        exact ⟨0, Nat.zero_le _, rfl, World.ownsRow_nil _ _ _ _, Ex.refl _ _⟩
      case round =>
        obtain ⟨m, hm, rfl, hownN, hexN⟩ := hrel
        by_cases hlt2 : m < L.length
        · obtain ⟨wm, hwm⟩ : ∃ x, x = wr := ⟨wr, rfl⟩
          subst hwm
          obtain ⟨p, hp⟩ : ∃ p, L[m]? = some p := ⟨L[m], by simp [hlt2]⟩
          obtain ⟨d0, d1, d2, d3⟩ := set_cells (fun i x hx => (hexN.cell (p := ⟨g, 0 + i, none⟩) (by simp; omega)).trans ((hE2.cell (p := ⟨g, 0 + i, none⟩) hgs).trans (hLC i x hx))) m p hp
          simp only [Nat.zero_add] at d0 d1 d2 d3
          go_wp2_with fail
          obtain ⟨w3, hw3⟩ : ∃ w3, w3 = wm.alloc (.cells (sc p) 24) := ⟨_, rfl⟩
          have hrp : w3.heap[wm.heap.size]? = some (.cells (sc p) 24 (0, 0)) := by rw [hw3]; exact heap_new _ _ _ rfl
          have hE3 : Ex wm.heap.size wm w3 := by rw [hw3]; exact (Ex.refl _ _).alloc (Nat.le_refl _) _
          have hs3 : w3.heap.size = wm.heap.size + 1 := by rw [hw3]; simp
          have hszN := hexN.size
          have hrS3 : w3.heap[wo.heap.size]? = some (.cells (sc S) 24 (0, 0)) := (hE3.block _ (by omega)).trans ((hexN.block _ (by omega)).trans hrS)
          show Code.wp _ _ _ _ (wm.alloc (.cells (sc p) 24))
          rw [← hw3]
          clear hw3 d0 d1 d2 d3 hLC
          have hts : stepS S (L.take (m + 1)) = stepS S (L.take m) ++ (splitS S p).filter (fun x => !(x == 0#256)) := by rw [List.take_add_one, hp, stepS_app]; simp [stepS]
          have HTS := Lib.hid hts
          have hal : (stepS S (L.take m)).length ≤ 2 * L.length := Nat.le_trans (stepS_len _ _) (by simp; omega)
          clear hts
          have hcA : ∀ W, Calls Try.prog 17 #[sv p, sv S] W (Ret (sv (p &&& S)) W) := and_any _ _
          have hcL : ∀ W, Calls Try.prog 12 #[sv p, sv S] W (Ret (sv (p &&& ~~~S)) W) := less_any _ _
          refine wp_region_fwd 9 (by kernel_rfl) (by kernel_rfl) ?_
          simp only [List.take_succ_cons, List.take_zero, List.drop_succ_cons, List.drop_zero]
          refine fwd_load rfl rfl (by rintro ρ W ⟨_, _, _, hr⟩; simp [Op.operands, Call.operands, readsOf, All, env, Is, Act.eval, accOf] at hr; exact hr) hrp Try.underlying24 rfl info24 ?_
          refine fwd_load rfl rfl (by rintro ρ W ⟨_, _, _, hr⟩; simp [Op.operands, Call.operands, readsOf, All, env, Is, Act.eval, accOf] at hr; exact hr) hrS3 Try.underlying24 rfl info24 ?_
          refine fwd_call (e := ?_) (f := ?_) (args := ?_) rfl ?_ ?_ ?_
          rotate_left 3
          · rintro ρ W ⟨h1, h2, hW, hr⟩
            try simp [Op.operands, Call.operands, readsOf, All, env, Is, Act.eval, accOf] at hr
            go_simp
            try go_bits
            refine ⟨?_, ?_⟩ <;> rfl
          · exact hcA
          refine fwd_load rfl rfl (by rintro ρ W ⟨_, _, _, hr⟩; simp [Op.operands, Call.operands, readsOf, All, env, Is, Act.eval, accOf] at hr; exact hr) hrp Try.underlying24 rfl info24 ?_
          refine fwd_load rfl rfl (by rintro ρ W ⟨_, _, _, hr⟩; simp [Op.operands, Call.operands, readsOf, All, env, Is, Act.eval, accOf] at hr; exact hr) hrS3 Try.underlying24 rfl info24 ?_
          refine fwd_call (e := ?_) (f := ?_) (args := ?_) rfl ?_ ?_ ?_
          rotate_left 3
          · rintro ρ W ⟨h1, h2, hW, hr⟩
            try simp [Op.operands, Call.operands, readsOf, All, env, Is, Act.eval, accOf] at hr
            go_simp
            try go_bits
            refine ⟨?_, ?_⟩ <;> rfl
          · exact hcL
          refine fwd_any (fun v W => ∃ q, v = .slice (some ⟨q, 0, none⟩) 2 2 ∧ W.heap[q]? = some (.cells (setC (splitS S p)).toArray 24 (0, 0)) ∧ w3.heap.size ≤ q) ?_ ?_ ?_
          · rintro v W W' hg ⟨q, h1, h2, h3⟩
            exact ⟨q, h1, (hg.block q (Array.getElem?_eq_some_iff.1 h2).1).trans h2, h3⟩
          · rintro ρ W hE hg hr
            try simp [Op.operands, Call.operands, readsOf, All, env, Is, Act.eval, accOf] at hr
            simp only [sv] at hr
            go_simp
            exact ⟨(Ex.refl _ _).alloc (Nat.le_refl _) _, _, rfl, heap_new _ _ _ rfl, hs3 ▸ hg.size⟩
          refine fwd_is (e := .int .i64 2) rfl ?_ ?_
          · rintro ρ W ⟨h1, h2, hW, hr⟩
            try simp [Op.operands, Call.operands, readsOf, All, env, Is, Act.eval, accOf] at hr
            obtain ⟨q, hq, _⟩ := hr
            go_simp
            try rfl
          refine fwd_is (e := ?_) rfl ?_ ?_
          rotate_left
          · rintro ρ W ⟨h1, h2, hW, hr⟩
            try simp [Op.operands, Call.operands, readsOf, All, env, Is, Act.eval, accOf] at hr
            go_simp
            try rfl
          refine fwd_nil ?_
          intro w9 hg9
          simp [EndAt, accOf, Is, Act.put]
          rintro v31 q rfl hq5 hq3
          go_wp2
          have hs9 := hg9.size
          have hEm : Ex wm.heap.size wm w9 := hE3.trans (Ex.mono hg9 (by omega))
          have hE25 : Ex (wo.heap.size + 1) w2 w9 := hexN.trans (hEm.mono (by omega))
          generalize hA : stepS S (L.take m) = A at *
          go_loopw [6, 33] (fun nv i wi => ∃ (t : Nat), t ≤ 2 ∧ i = .int .i64 t ∧ wi.ownsRow (wo.heap.size + 1) 24 4 nv (A ++ ((splitS S p).take t).filter (fun x => !(x == 0#256))).length (setC (A ++ ((splitS S p).take t).filter (fun x => !(x == 0#256)))) ∧
            (t < 2 → wi.heap[q]? = some (.cells (setC (splitS S p)).toArray 24 (0, 0))) ∧ (t = 0 → nv.ownBlock ≠ some q) ∧ Ex (wo.heap.size + 1) w2 wi) (fun _ i _ => 2 - (intOf i).toNat)
          case atStart =>
            refine ⟨0, by omega, rfl, ?_, fun _ => hq5, fun _ => owns_block hownN (by omega), hE25⟩
            simpa using owns_ex hownN hEm (Nat.le_refl _)
          case round =>
            obtain ⟨t, ht, rfl, hownI, hqI, hnq, hexI⟩ := hrel
            by_cases hlt3 : t < 2
            · obtain ⟨x, hx⟩ : ∃ x, (splitS S p)[t]? = some x := ⟨(splitS S p)[t]'(by simpa [splitS] using hlt3), by simp⟩
              have hf : ((splitS S p).take (t + 1)).filter (fun x => !(x == 0#256)) = ((splitS S p).take t).filter (fun x => !(x == 0#256)) ++ (if x = 0#256 then [] else [x]) := by
                rw [List.take_add_one, hx, List.filter_append]; congr 1
                by_cases h : x = 0#256 <;> simp [h]
              have hfl : (((splitS S p).take t).filter (fun x => !(x == 0#256))).length ≤ 2 := Nat.le_trans (List.length_filter_le _ _) (by simp; omega)
              obtain ⟨d0, d1, d2, d3⟩ := set_cells (W := wr) (b := q) (o := 0) (L := splitS S p) (fun i y hy => by rw [Nat.zero_add, cell_of_row _ _ _ _ _ _ (hqI hlt3)]; simpa using hy) t x hx
              simp only [Nat.zero_add] at d0 d1 d2 d3
              have hsI := hexI.size
              have he : ∀ W : World, (Op.equalIn 10000 24 (.agg #[.int .u64 (wd x 0), .int .u64 (wd x 1), .int .u64 (wd x 2), .int .u64 (wd x 3)]) (.agg #[.int .u64 0, .int .u64 0, .int .u64 0, .int .u64 0])).run Try.prog W = .ok (x == 0#256) W := fun W => by rw [eqIn24, sv_beq0]
              generalize ((splitS S p).take t).filter (fun x => !(x == 0#256)) = F at *
              have HF := Lib.hid hf
              clear hf hx
              by_cases hz : x = 0#256
              · have he' : ∀ W : World, (Op.equalIn 10000 24 (.agg #[.int .u64 (wd x 0), .int .u64 (wd x 1), .int .u64 (wd x 2), .int .u64 (wd x 3)]) (.agg #[.int .u64 0, .int .u64 0, .int .u64 0, .int .u64 0])).run Try.prog W = .ok true W := fun W => by rw [he, hz]; rfl
                have HZ := Lib.hid hz
                clear he hz
                go_wp2
                refine ⟨⟨t + 1, by omega, by go_num, ?_, fun _ => ?_, fun h => by omega, hexI.alloc (by omega) _⟩, by simp [intOf]; omega⟩
                · rw [HF.out, if_pos HZ.out, List.append_nil]; exact hownI.alloc _
                · rw [Below.heap_alloc _ _ _ (Array.getElem?_eq_some_iff.1 (hqI hlt3)).1]; exact hqI hlt3
              · have he' : ∀ W : World, (Op.equalIn 10000 24 (.agg #[.int .u64 (wd x 0), .int .u64 (wd x 1), .int .u64 (wd x 2), .int .u64 (wd x 3)]) (.agg #[.int .u64 0, .int .u64 0, .int .u64 0, .int .u64 0])).run Try.prog W = .ok false W := fun W => by rw [he]; congr 1; simpa using hz
                have HZ := Lib.hid hz
                clear he hz
                obtain ⟨a, cp, rfl⟩ := owns_slice hownI
                have hGl : (A ++ F).length ≤ 100000 := by rw [List.length_append]; omega
                have hf2 := HF.out
                rw [if_neg HZ.out] at hf2
                have hf3 : A ++ ((splitS S p).take (t + 1)).filter (fun x => !(x == 0#256)) = (A ++ F) ++ [x] := by rw [hf2, List.append_assoc]
                clear hf2 HF
                generalize A ++ F = G at *
                have HF := Lib.hid hf3
                clear hf3
                have HM1 : G.length + 1 ≤ maxLen := by unfold maxLen; omega
                have HM2 : (G.length + 1) * 32 ≤ 140737488355328 := by omega
                have hcn := cells_new (wr.alloc (.cells #[.int .u64 (wd x 0), .int .u64 (wd x 1), .int .u64 (wd x 2), .int .u64 (wd x 3)] 24)) [.int .u64 (wd x 0), .int .u64 (wd x 1), .int .u64 (wd x 2), .int .u64 (wd x 3)] 24
                rw [World.size_alloc] at hcn
                have hqx := hqI hlt3
                have HQ := Lib.hid hqx
                clear hqx hqI
                go_wp2_with (refine wpList_append _ rfl (.tmp 40) (.tmp 42) 37 rfl (wo.heap.size + 1) 24 i0 (.agg #[.int .u64 0, .int .u64 0, .int .u64 0, .int .u64 0]) 4 32 Try.underlying37 hi0 hz0 hz1 hz2 rfl (by decide) _ _ _ rfl ((hownI.alloc _).alloc _) ⟨wr.heap.size + 1, 0, none⟩ 1 1 [.int .u64 (wd x 0), .int .u64 (wd x 1), .int .u64 (wd x 2), .int .u64 (wd x 3)] rfl rfl hcn (by simp [Value.oneCell']) HM1 HM2 (by simp; omega) ?_; intro v' w6 hown' hgrow _; obtain ⟨g', cap', rfl⟩ := ownsRow_succ hown')
                refine ⟨⟨t + 1, by omega, by go_num, ?_, fun h => ?_, fun h => by omega, ex_grew (hexI.alloc (by omega) _) (by simp; omega) (Nat.le_refl _) (hownI.alloc _) hgrow⟩, by simp [intOf]; omega⟩
                · rw [HF.out, setC_app, List.length_append (bs := [x])]; exact hown'
                · have hlt := (Array.getElem?_eq_some_iff.1 HQ.out).1
                  rw [hgrow.block _ (by simp; omega) (fun e => hnq (by omega) e.symm), Below.heap_alloc _ _ _ (by simp; omega), Below.heap_alloc _ _ _ hlt]
                  exact HQ.out
            · obtain rfl : t = 2 := by omega
              go_wp2
              refine ⟨⟨m + 1, by omega, by go_num, ?_, hexI⟩, by simp [intOf]; omega⟩
              rw [HTS.out]
              exact hownI
        · obtain rfl : m = L.length := by omega
          rw [List.take_length, ← HSN.out] at hownN
          go_wp2
          obtain ⟨g2, cap2, rfl, hb2, hl2⟩ := owns_pos hownN (List.length_pos_iff.2 (partsU_ne _).2)
          have := hex.size
          exact ⟨⟨k + 1, g2, cap2, by omega, by go_num, rfl, owns_less hownN (by omega), hex.trans ((hE2.mono (by omega)).trans (hexN.mono (by omega)))⟩, by simp [intOf]; omega⟩
    · obtain rfl : k = l.length := by omega
      rw [List.take_length] at hown
      have hpl : (partsU l).length ≤ 2 ^ 12 := Nat.le_trans (partsU_len _) (Nat.pow_le_pow_right (by omega) (by omega))
      obtain ⟨g2, cap2, he, hb2, hl2⟩ := owns_pos hown (List.length_pos_iff.2 (partsU_ne _).2)
      have hle : (partsU l).length ≤ cap := by
        rcases hown.2 with ⟨h0, _⟩ | ⟨_, _, _, h0, _, _, h1, _⟩
        · cases h0
        · cases h0; exact h1
      have hso := sort_any (partsU l) w.heap.size g cap wo (by omega) hown (by cases he; exact hl2)
      obtain rfl : g = g2 := by cases he; rfl
      clear he
      simp only [List.take_length]
      go_wp2_with (go_at_call 48; refine hso.mono ?_; rintro e w4 ⟨rfl, hx4, hs4⟩)
      go_ret
      refine ⟨_, rfl, hex.trans (hx4.mono hb2), ?_⟩
      rw [partsS, sortS_len]; exact ⟨hs4, g, cap, rfl, hb2, hle⟩
end Go.Proofs.Ytjmhbbbpjbgmjaa
