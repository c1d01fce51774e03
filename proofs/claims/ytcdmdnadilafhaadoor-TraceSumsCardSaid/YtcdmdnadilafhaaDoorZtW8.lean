/-
  trace: Sent.
-/
import Derived.Test.YtcdmdnadilafhaaDoorZtBld
import Derived.Test.YtcdmdnadilafhaaDoorZtNm
import Derived.Test.YtcdmdnadilafhaaDoorZtEn2
import Derived.Test.YtcdmdnadilafhaaDoorZdZ
import Derived.Test.YtcdmdnadilafhaaDoorZtW7
set_option linter.unusedSimpArgs false
set_option linter.unusedVariables false
set_option maxRecDepth 100000
namespace Go.Ab
open Go Go.RowKit Go.Fwd Go.Proofs
set_option maxHeartbeats 1000000 in
set_option maxRecDepth 100000 in
theorem str_none (b : Nat) (w : World) (h1 : w.cell? ⟨b, 1, none⟩ = some (.slice none 0 0)) :
    Calls Tryd.prog 36 #[.pointer (some ⟨b, 0, none⟩)] w fun e w' => e = .returned (.string ⟨#[]⟩) ∧ w' = w.drew := by
  have c1 : w.drew.cell? ⟨b, 1, none⟩ = some (.slice none 0 0) := h1
  have hSD : (Builtin.unsafeSliceData_ #[66] 97 #[.slice none 0 0]).run Tryd.prog w.drew = .ok (.pointer none) w.drew := Lib.run_unsafeSliceData_nil _ _ _ _ _
  have hUS : (Builtin.unsafeString_ #[97, 3] 9 #[.pointer none, .int .i64 0]).run Tryd.prog w.drew = .ok (.string .empty) w.drew := Lib.run_unsafeString_none _ _ _ _ _
  go_enter Tryd.func36, Tryd.ntmps36
  go_wp2
  go_region
  all_goals (go_wp2; go_ret; exact ⟨rfl, rfl⟩)
/-- What a Builder's buffer is. -/
def bufA (l : List UInt8) : AV := if l.length = 0 then .raw (.slice none 0 0) else .list l.length (Enc.cellsL l) (.own 0)
def bldC (s : Nat) (u : Bool) (l : List UInt8) : List AV := [bif u then .ptr s 0 else .raw (.pointer none), bufA l]
theorem bufA_nil : bufA [] = .raw (.slice none 0 0) := rfl
theorem bufA_cons {l : List UInt8} (h : ¬ l.length = 0) : bufA l = .list l.length (Enc.cellsL l) (.own 0) := by unfold bufA; rw [if_neg h]
theorem byteCells_bs (b : List UInt8) : (byteCells (bs b)).map AV.raw = Enc.cellsL b := by
  simp [byteCells, bs]
  rfl
theorem rd_buf (l : List UInt8) : rd Tryd.prog 66 [bufA l] = some (bufA l) := by
  unfold bufA; split <;> rfl
theorem ok_buf (l : List UInt8) : cellOk (bufA l) = true ∧ cellsOf (bufA l) = [bufA l] := by
  unfold bufA; split <;> exact ⟨rfl, rfl⟩
theorem app_buf {bx : List (TypeId × List AV)} {ρ : Operand → AV} {o : Oper} {x y : Operand} (l b : List UInt8) (g : (l.length + b.length) * 1 ≤ 140737488355328) (ho : o.op = .call ⟨.builtin .append, #[x, y], #[66, 9]⟩) (hx : ρ x = bufA l) (hy : ρ y = .raw (.string (bs b))) :
    AopR Tryd.prog ρ (ownSt bx 5 l.length 1) o (bufA (l ++ b)) (ownSt bx 5 (l ++ b).length 1) := by
  have hmax : 140737488355328 ≤ maxLen := by decide
  have hbs : (bs b).size = b.length := rfl
  have hbc := byteCells_bs b
  by_cases hl : l.length = 0
  · have hl0 := List.length_eq_zero_iff.1 hl
    subst hl0
    refine .inr (.inr (.inl ?_))
    have hn : isNilS (ρ x) = true := by rw [hx]; rfl
    simp only [aopB, ho, hn, if_true]
    rw [hy]
    by_cases hb : b.length = 0
    · have hb0 := List.length_eq_zero_iff.1 hb
      subst hb0
      rfl
    · have h1 : ¬ (bs b).size = 0 := by rw [hbs]; exact hb
      simp only [aAppN, if_neg h1]
      have hc : ([] : List AV).length = 0 * 1 ∧ True ∧ 0 < (bs b).size ∧ True ∧ 0 < 1 ∧ 0 + (bs b).size ≤ maxLen ∧ (0 + (bs b).size) * 1 ≤ 140737488355328 := ⟨rfl, trivial, by rw [hbs]; omega, trivial, by decide, by rw [hbs]; omega, by rw [hbs]; omega⟩
      have hi : ∃ i z, Tryd.prog.info? 5 = some i ∧ i.zero = some z ∧ i.size = 1 ∧ z.cells.size = 1 ∧ i.bytes = 1 := ⟨_, _, rfl, rfl, rfl, rfl, rfl⟩
      obtain ⟨i, z, i1, i2, i3, i4, i5⟩ := hi
      have u1 : Tryd.prog.underlying 66 = some (.slice 5) := by kernel_rfl
      simp only [aAppS, u1, und9, i1, i2, i3, i4, i5]
      rw [if_neg (fun h => h1 h.1), if_pos hc, hbc, bufA_cons (by simpa using hb)]
      simp [ownSt, hb, hbs]
  · by_cases hb : b.length = 0
    · have hb0 := List.length_eq_zero_iff.1 hb
      subst hb0
      refine .inl ?_
      have hq : qop Tryd.prog ρ (ownSt bx 5 l.length 1) o = none := by
        simp only [qop, ho, hx, hy, bufA_cons hl]
        first | done | simp [rawOp, ho, Op.operands, Call.operands, hx, hy, bufA_cons hl, toVal]
      have hi : ∃ i z, Tryd.prog.info? 5 = some i ∧ i.zero = some z ∧ i.size = 1 := ⟨_, _, rfl, rfl, rfl⟩
      obtain ⟨i, z, i1, i2, i3⟩ := hi
      have u1 : Tryd.prog.underlying 66 = some (.slice 5) := by kernel_rfl
      simp only [aop, hq, ho]
      rw [if_neg (by decide), hx, hy, bufA_cons hl]
      simp only [aAppS, u1, und9, i1, i2, i3]
      rw [if_pos ⟨rfl, trivial⟩, List.append_nil, bufA_cons hl]
    · refine .inl ?_
      have hq : qop Tryd.prog ρ (ownSt bx 5 l.length 1) o = none := by
        simp only [qop, ho, hx, hy, bufA_cons hl]
        first | done | simp [rawOp, ho, Op.operands, Call.operands, hx, hy, bufA_cons hl, toVal]
      have hi : ∃ i z, Tryd.prog.info? 5 = some i ∧ i.zero = some z ∧ i.size = 1 ∧ z.cells.size = 1 ∧ i.bytes = 1 := ⟨_, _, rfl, rfl, rfl, rfl, rfl⟩
      obtain ⟨i, z, i1, i2, i3, i4, i5⟩ := hi
      have u1 : Tryd.prog.underlying 66 = some (.slice 5) := by kernel_rfl
      have h1 : ¬ (bs b).size = 0 := by rw [hbs]; exact hb
      have hc : (Enc.cellsL l).length = l.length * 1 ∧ True ∧ 0 < (bs b).size ∧ True ∧ 0 < 1 ∧ l.length + (bs b).size ≤ maxLen ∧ (l.length + (bs b).size) * 1 ≤ 140737488355328 := ⟨Enc.lenL l, trivial, by rw [hbs]; omega, trivial, by decide, by rw [hbs]; omega, by rw [hbs]; omega⟩
      have hlen : (Enc.cellsL l).length = l.length := by rw [hc.1, Nat.mul_one]
      simp only [aop, hq, ho]
      rw [if_neg (by decide), hx, hy, bufA_cons hl]
      simp only [aAppS, u1, und9, i1, i2, i3, i4, i5]
      have hown : (ownSt bx 5 l.length 1).lens[0]? = some (Enc.cellsL l).length ∧ (ownSt bx 5 l.length 1).elems[0]? = some 5 ∧ 0 < l.length := ⟨by simp [ownSt, hl, hlen], by simp [ownSt, hl], by omega⟩
      rw [if_neg (fun h => h1 h.1), if_pos hc, hbc, if_pos hown, bufA_cons (by rw [List.length_append]; omega), Enc.app]
      simp [ownSt, hl, hbs]
section
variable {IT : IterP} {P : Program} {W : Owed} {k0 : Nat}
theorem w_opR {ops : Array Oper} {Q : List AV → St → Prop} {o : Oper} {l : List Oper} {S S' : List AV} {σ σ' : St} {a : AV} (hg : o.guard = none) (hc : acall S o = none) (hy : ayield S o = none) (h : AopR P (aval S) σ o a σ') (hS : aput S o.dst a = S') (k : aops IT P W ops Q l S' σ') : aops IT P W ops Q (o :: l) S σ := by
  simp only [aops, hg, astep, hc, hy]
  exact .inl ⟨a, σ', h, by rw [hS]; exact k⟩
theorem ends_id {P : Program} {n m : Nat} {σ : St} {a : AV} : EndsS P n m σ a a σ := fun X Y v hE _ _ hI hv => ⟨Y, rfl, hE, hI, hv⟩
theorem end_id {P : Program} {fn : Func} {S : List AV} {σ : St} {n m : Nat} {a r : AV} (h : aResults P fn σ S = some a) (hr : a = r) : aendS P fn n m r σ .ret S σ := ⟨a, h, hr ▸ ends_id⟩
end
theorem set_same {α : Type} {l : List α} {s : Nat} {a : α} (h : l[s]? = some a) : l.set s a = l := by
  apply List.ext_getElem?
  intro i
  by_cases e : s = i
  · subst e
    have := (List.getElem?_eq_some_iff.1 h).1
    rw [List.getElem?_set_self this, h]
  · rw [List.getElem?_set_ne e]
theorem cc_snd {bx : List (TypeId × List AV)} {s n : Nat} {u : Bool} {x : AV} (hb : bx[s]? = some (71, [bif u then .ptr s 0 else .raw (.pointer none), x])) : Snd (ITP Tryd.prog) Tryd.prog 49 [.ptr s 0] (ownSt bx 5 n 1) (.tup []) (ownSt (bx.set s (71, [.ptr s 0, x])) 5 n 1) := by
  cases u with
  | false => exact cc_snd1 (σ := ownSt bx 5 n 1) (s := s) (x := x) hb
  | true =>
    have hb' : bx[s]? = some (71, [.ptr s 0, x]) := hb
    rw [set_same hb']
    exact cc_snd2 (σ := ownSt bx 5 n 1) (s := s) (x := x) hb
theorem ent33 : Ent Tryd.prog 33 := enters_of Tryd.func33 (by kernel_rfl) rfl
set_option maxRecDepth 100000 in
set_option maxHeartbeats 4000000 in
theorem bld_write {bx : List (TypeId × List AV)} {s : Nat} {u : Bool} {l b : List UInt8} (g : (l.length + b.length) * 1 ≤ 140737488355328) (hb : bx[s]? = some (71, bldC s u l)) :
    Snd (ITP Tryd.prog) Tryd.prog 33 [.ptr s 0, .raw (.string (bs b))] (ownSt bx 5 l.length 1) (.tup [.raw (.int .i64 b.length), .raw .nilIface]) (ownSt (bx.set s (71, bldC s true (l ++ b))) 5 (l ++ b).length 1) := by
  obtain ⟨d, hd⟩ : ∃ d, Tryd.f33.body = some d := ⟨_, rfl⟩
  refine snd_of mix Tryd.func33 hd ent33 ?_
  cases hd
  have hs : s < bx.length := (List.getElem?_eq_some_iff.1 hb).1
  refine w_start (by dsimp only [abeginS, Tryd.f33, List.length_cons, List.length_nil, Nat.zero_add, Nat.reduceAdd, Nat.reduceSub, List.replicate, List.cons_append, List.nil_append]) rfl ?_
  refine w_seq (w_region ?_)
  refine w_op (a := .raw (.int .i64 0)) rfl rfl rfl rfl (by dsimp only [aput, List.set]) ?_
  refine w_op (a := .raw .nilIface) rfl rfl rfl rfl (by dsimp only [aput, List.set]) ?_
  refine w_seq (w_region ?_)
  refine w_op (a := .ptr s 0) rfl rfl rfl rfl (by dsimp only [aput, List.set]) ?_
  refine w_snd (cc_snd hb) rfl rfl ⟨rfl, rfl⟩ (by dsimp only [aput, List.set]) ?_
  have hb1 : (bx.set s (71, [.ptr s 0, bufA l]))[s]? = some (71, [.ptr s 0, bufA l]) := List.getElem?_set_self hs
  have hfin : (bx.set s (71, [.ptr s 0, bufA l])).set s (71, bldC s true (l ++ b)) = bx.set s (71, bldC s true (l ++ b)) := List.set_set ..
  generalize bx.set s (71, [.ptr s 0, bufA l]) = bx1 at hb1 hfin
  rw [← hfin]
  refine w_seq (w_region ?_)
  refine w_op (a := .ptr s 0) rfl rfl rfl rfl (by dsimp only [aput, List.set]) ?_
  refine w_op (a := .ptr s 0) rfl rfl rfl rfl (by dsimp only [aput, List.set]) ?_
  refine w_op (a := .ptr s 0) rfl rfl rfl rfl (by dsimp only [aput, List.set]) ?_
  refine w_op (a := .ptr s 1) rfl rfl rfl rfl (by dsimp only [aput, List.set]) ?_
  refine w_op rfl rfl rfl (op_load (a := bufA l) (.ptr s 1) rfl rfl (by show (match bx1[s]? with | some bx => rd Tryd.prog 66 (bx.2.drop 1) | none => none) = _; rw [hb1]; exact rd_buf l)) (by dsimp only [aput, List.set]) ?_
  refine w_op (a := .raw (.string (bs b))) rfl rfl rfl rfl (by dsimp only [aput, List.set]) ?_
  refine w_opR rfl rfl rfl (app_buf l b g rfl rfl rfl) (by dsimp only [aput, List.set]) ?_
  refine w_op (a := .ptr s 0) rfl rfl rfl rfl (by dsimp only [aput, List.set]) ?_
  refine w_op (a := .ptr s 1) rfl rfl rfl rfl (by dsimp only [aput, List.set]) ?_
  refine w_opm (σ'' := ownSt (bx1.set s (71, bldC s true (l ++ b))) 5 (l ++ b).length 1) rfl rfl rfl (op_store (n := 1) (v := bufA (l ++ b)) (bx := (71, [.ptr s 0, bufA l])) rfl rfl rfl hb1 rfl ⟨(ok_buf _).1, by rw [(ok_buf _).2]; rfl, Nat.le_refl 2, Nat.one_pos⟩) (by dsimp only [aput, List.set]) (by rw [(ok_buf _).2]; rfl) ?_
  refine w_seq (w_region ?_)
  refine w_op (a := .raw (.string (bs b))) rfl rfl rfl rfl (by dsimp only [aput, List.set]) ?_
  refine w_op (a := .raw (.int .i64 b.length)) rfl rfl rfl (op_q (q_lenS rfl rfl rfl)) (by dsimp only [aput, List.set]) ?_
  refine w_op (a := .raw (.int .i64 b.length)) rfl rfl rfl rfl (by dsimp only [aput, List.set]) ?_
  refine w_op (a := .raw .nilIface) rfl rfl rfl rfl (by dsimp only [aput, List.set]) ?_
  exact end_id rfl rfl
theorem okT_bld {n s : Nat} {u : Bool} {l : List UInt8} (h : s < n) : okTrimL n (bldC s u l) = true := by
  have h1 : okTrim n (bufA l) = true := by
    unfold bufA
    split
    · rfl
    · rw [okTrim, okTrimL_clo n _ (Enc.cloL l)]
  have h2 : okTrim n (bif u then .ptr s 0 else .raw (.pointer none)) = true := by
    cases u with
    | true => show decide (s < n) = true; exact decide_eq_true h
    | false => rfl
  unfold bldC
  rw [okTrimL, okTrimL, h1, h2, okTrimL]; rfl
theorem bytesOfA_cells : ∀ l : List UInt8, bytesOfA (Enc.cellsL l) = some l
  | [] => rfl
  | a :: l => by
    show bytesOfA (.raw (.int .u8 ((a.toNat : Nat) : Int)) :: Enc.cellsL l) = _
    have h := a.toNat_lt
    have h1 : (0 : Int) ≤ ((a.toNat : Nat) : Int) ∧ ((a.toNat : Nat) : Int) < 256 := by omega
    rw [bytesOfA, if_pos h1, bytesOfA_cells l]
    simp
theorem bld_string {bx : List (TypeId × List AV)} {s : Nat} {u : Bool} {l : List UInt8} (hb : bx[s]? = some (71, bldC s u l)) : Snd (ITP Tryd.prog) Tryd.prog 36 [.ptr s 0] (ownSt bx 5 l.length 1) (.raw (.string (bs l))) (ownSt bx 5 l.length 1) := by
  by_cases hl : l.length = 0
  · have hl0 := List.length_eq_zero_iff.1 hl
    subst hl0
    refine ⟨ent36, fun X us hI hr => ?_⟩
    obtain ⟨a, l', rfl, ⟨b, hκ, rfl⟩, hl'⟩ := hr
    have hl' : l' = [] := hl'
    subst hl'
    obtain ⟨vs, zs, u1, u2, u3⟩ := hI.box s b 71 _ hκ hb
    obtain ⟨a0, r0, rfl, h0, a1, r1, rfl, hx, h5⟩ := u2
    have h5 : r1 = [] := h5
    subst h5
    have hx : a1 = .slice none 0 0 := hx
    subst hx
    refine (str_none b X.w (by simp [World.cell?, u1])).mono ?_
    rintro e w' ⟨rfl, rfl⟩
    obtain ⟨d1, d2⟩ := inv_drew (itp_mono _) hI
    exact ⟨_, _, rfl, rfl, d1, d2, rfl⟩
  · have hb' : (ownSt bx 5 l.length 1).boxes[s]? = some (71, [bif u then .ptr s 0 else .raw (.pointer none), .list l.length (Enc.cellsL l) (.own 0)]) := by
      rw [← bufA_cons hl]; exact hb
    exact str_snd (s := s) (k := 0) hb' (bytesOfA_cells l) (by simp [ownSt, hl]) (by rw [Enc.lenL]; show l.length * 1 = _; omega) (by omega) (by simp [ownSt, hl])
end Go.Ab
set_option linter.unusedSimpArgs false
set_option linter.unusedVariables false
namespace Go.Ab
open Go Go.RowKit Go.Fwd Go.Proofs
def F_sent (fuel : Nat) (t : Trc) : Option (List UInt8) :=
  (cutE (τ := (Bool × List UInt8)) (loopE (β := Int × (Bool × List UInt8)) (fun s1 => (bif (decide (s1.1 < (List.length t.l : Int))) then (cutE (τ := (Bool × List UInt8)) (chk (0 ≤ s1.1 ∧ s1.1 < (List.length t.l : Int)) (letE (ix t.l s1.1) (fun x1 => (bif (x1.k == 1) then (chk ((List.length s1.2.2 + List.length x1.b) * 1 ≤ 140737488355328) (some (Sum.inl ((true, (s1.2.2 ++ x1.b)))))) else (some (Sum.inl ((s1.2.1, s1.2.2)))))))) (fun j2 => (chk (-9223372036854775808 ≤ (s1.1 + 1) ∧ (s1.1 + 1) < 9223372036854775808) (some (Sum.inl ((s1.1 + 1), (j2.1, j2.2))))))) else (some (Sum.inr (Sum.inl ((s1.2.1, s1.2.2))))))) fuel (0, (false, ([] : List UInt8)))) (fun j1 => (some j1.2)))
theorem ent24 : Ent Tryd.prog 24 := enters_of Tryd.func24 (by kernel_rfl) rfl
set_option maxRecDepth 100000 in
set_option maxHeartbeats 4000000 in
theorem sent_sh (fuel : Nat) (t : Trc) (r : (List UInt8)) (h : F_sent fuel t = some r) : Pure (ITP Tryd.prog) Tryd.prog 24 [.agg (Enc.cells (t : Trc))] (.raw (.string (bs r))) := by
 obtain ⟨d, hd⟩ : ∃ d, Tryd.f24.body = some d := ⟨_, rfl⟩
 refine pure_of mix Tryd.func24 hd ent24 ?_
 cases hd
 unfold F_sent at h
 refine w_start (by dsimp only [abeginS, Tryd.f24, List.length_cons, List.length_nil, Nat.zero_add, Nat.reduceAdd, Nat.reduceSub, List.replicate, List.cons_append, List.nil_append]) (by dsimp only [St.empty]) ?_
 refine w_seq (w_region ?_)
 refine w_opm (a := .ptr 0 0) (σ'' := ⟨[(26, (Enc.cells (t : Trc)))], [], [], 0, false⟩) rfl rfl rfl rfl (by dsimp only [aput, List.set]) rfl ?_
 refine w_op (a := .raw (.string (bs ([] : List UInt8)))) rfl rfl rfl rfl (by dsimp only [aput, List.set]) ?_
 refine w_seq (w_region ?_)
 refine w_opB (a := .ptr 1 0) (σ'' := (ownSt [(26, (Enc.cells (t : Trc))), (71, (bldC 1 false ([] : List UInt8)))] 5 (List.length (([] : List UInt8) : List UInt8)) 1)) rfl rfl rfl rfl (by dsimp only [aput, List.set]) rfl ?_
 refine w_cutF h [0, 1, 2, 4, 5, 6, 7, 8, 9, 10, 11, 12, 13, 14, 15, 16, 17, 18, 19, 20] (fun j1 => []) (fun j1 => (ownSt [(26, (Enc.cells (t : Trc))), (71, (bldC 1 j1.1 j1.2))] 5 (List.length (j1.2 : List UInt8)) 1)) ?_ ?_
 ·
  intro or1 h hr1
  refine w_seq (w_region ?_)
  refine w_op (a := .ptr 0 0) rfl rfl rfl rfl (by dsimp only [aput, List.set]) ?_
  refine w_op (a := .list (List.length (t.l : List En)) (Enc.cellsL (t.l : List En)) .none) rfl rfl rfl rfl (by dsimp only [aput, List.set]) ?_
  refine w_op (a := .raw (.int .i64 (List.length t.l : Int))) rfl rfl rfl rfl (by dsimp only [aput, List.set]) ?_
  refine w_op (a := .raw (.int .i64 0)) rfl rfl rfl rfl (by dsimp only [aput, List.set]) ?_
  refine w_block ?_
  refine w_loopF h [0, 1, 2, 4, 5, 6, 9, 10, 11, 12, 13, 14, 15, 16, 17, 18, 19, 20] (fun s1 => [(9, .raw (.int .i64 s1.1))]) (fun s1 => (ownSt [(26, (Enc.cells (t : Trc))), (71, (bldC 1 s1.2.1 s1.2.2))] 5 (List.length (s1.2.2 : List UInt8)) 1)) ?_ ?_
  ·
   exact wm_of [false, false, false, true, false, false, false, true, true, true, false, false, false, false, false, false, false, false, false, false, false] (by kernel_rfl) (by kernel_rfl)
  ·
   intro s1 p1 h
   refine w_start (by dsimp only [setAll, topAll, List.foldl, List.set]) rfl ?_
   refine w_seq (w_region ?_)
   refine w_op (a := .raw (.bool (decide (s1.1 < (List.length t.l : Int))))) rfl rfl rfl rfl (by dsimp only [aput, List.set]) ?_
   refine w_seq ?_
   refine bif_e h (fun hc1 h => ?_) (fun hc1 h => ?_)
   ·
    refine w_condT hc1 rfl ?_
    refine w_cutF h [5, 10, 11, 12, 13, 14, 15, 16, 17, 18] (fun j2 => []) (fun j2 => (ownSt [(26, (Enc.cells (t : Trc))), (71, (bldC 1 j2.1 j2.2))] 5 (List.length (j2.2 : List UInt8)) 1)) ?_ ?_
    ·
     intro or2 h hr2
     refine w_block ?_
     refine w_seq (w_region ?_)
     obtain ⟨g1, h⟩ := chk_e h
     obtain ⟨x1, hx1, h⟩ := letE_e h
     refine w_op (a := .iptr (Enc.cells x1 ++ Enc.cellsL (List.drop (Int.toNat s1.1 + 1) t.l))) rfl rfl rfl (op_q (by rw [← hx1]; exact (q_idx (α := En) (l := t.l) g1 rfl rfl rfl rfl rfl))) (by dsimp only [aput, List.set]) ?_
     refine w_op (a := .agg (Enc.cells (x1 : En))) rfl rfl rfl rfl (by dsimp only [aput, List.set]) ?_
     refine w_opm (a := .ptr 2 0) (σ'' := (ownSt [(26, (Enc.cells (t : Trc))), (71, (bldC 1 s1.2.1 s1.2.2)), (43, (Enc.cells ((En.mk 0 0 0 []) : En)))] 5 (List.length (s1.2.2 : List UInt8)) 1)) rfl rfl rfl rfl (by dsimp only [aput, List.set]) rfl ?_
     refine w_opm (σ'' := (ownSt [(26, (Enc.cells (t : Trc))), (71, (bldC 1 s1.2.1 s1.2.2)), (43, (Enc.cells (x1 : En)))] 5 (List.length (s1.2.2 : List UInt8)) 1)) rfl rfl rfl (op_storeW (n := 4) rfl rfl rfl rfl rfl rfl rfl rfl (by decide)) (by dsimp only [aput, List.set]) rfl ?_
     refine w_seq (w_region ?_)
     refine w_op (a := .ptr 2 0) rfl rfl rfl rfl (by dsimp only [aput, List.set]) ?_
     refine w_op (a := .raw (.int .u8 x1.k)) rfl rfl rfl rfl (by dsimp only [aput, List.set]) ?_
     refine w_op (a := .raw (.bool (x1.k == 1))) rfl rfl rfl rfl (by dsimp only [aput, List.set]) ?_
     refine bif_e h (fun hc2 h => ?_) (fun hc2 h => ?_)
     ·
      refine w_condT hc2 rfl ?_
      refine w_region (k0 := 0) (id := 6) ?_
      refine w_op (a := .ptr 2 3) rfl rfl rfl rfl (by dsimp only [aput, List.set]) ?_
      refine w_op (a := .raw (.string (bs x1.b))) rfl rfl rfl rfl (by dsimp only [aput, List.set]) ?_
      obtain ⟨g2, h⟩ := chk_e h
      refine w_snd (r := .tup [.raw (.int .i64 (List.length x1.b : Int)), .raw .nilIface]) (σ' := (ownSt [(26, (Enc.cells (t : Trc))), (71, (bldC 1 true (s1.2.2 ++ x1.b))), (43, (Enc.cells (x1 : En)))] 5 (List.length ((s1.2.2 ++ x1.b) : List UInt8)) 1)) (bld_write (u := s1.2.1) (l := s1.2.2) (b := x1.b) g2 rfl) rfl rfl ⟨rfl, rfl⟩ (by dsimp only [aput, List.set]) ?_
      refine cut_done (o := or2) ((true, (s1.2.2 ++ x1.b))) h ?_
      exact wm_trim [true, true, true, true, true, false, true, true, true, true, false, false, false, false, false, false, false, false, false, true, true] 2 (by kernel_rfl) (Nat.le_of_ble_eq_true rfl) (okSt_of (okB_cons (okTrimL_clo _ _ (Enc.clo _)) (okB_cons (okT_bld (by decide)) rfl))) (by dsimp only [setAll, topAll, List.foldl, List.set]; exact (okTrimL_cons rfl (okTrimL_cons rfl (okTrimL_cons rfl (okTrimL_cons (by decide) (okTrimL_cons rfl (okTrimL_cons rfl (okTrimL_cons rfl (okTrimL_cons (okTrim_l (Enc.cloL _)) (okTrimL_cons rfl (okTrimL_cons rfl (okTrimL_cons rfl (okTrimL_cons rfl (okTrimL_cons rfl (okTrimL_cons rfl (okTrimL_cons rfl (okTrimL_cons rfl (okTrimL_cons rfl (okTrimL_cons rfl (okTrimL_cons rfl (okTrimL_cons rfl (okTrimL_cons rfl rfl)))))))))))))))))))))) (by kernel_rfl)
     ·
      refine w_condF hc2 rfl ?_
      refine cut_done (o := or2) ((s1.2.1, s1.2.2)) h ?_
      exact wm_trim [true, true, true, true, true, false, true, true, true, true, false, false, false, false, false, false, false, false, false, true, true] 2 (by kernel_rfl) (Nat.le_of_ble_eq_true rfl) (okSt_of (okB_cons (okTrimL_clo _ _ (Enc.clo _)) (okB_cons (okT_bld (by decide)) rfl))) (by dsimp only [setAll, topAll, List.foldl, List.set]; exact (okTrimL_cons rfl (okTrimL_cons rfl (okTrimL_cons rfl (okTrimL_cons (by decide) (okTrimL_cons rfl (okTrimL_cons rfl (okTrimL_cons rfl (okTrimL_cons (okTrim_l (Enc.cloL _)) (okTrimL_cons rfl (okTrimL_cons rfl (okTrimL_cons rfl (okTrimL_cons rfl (okTrimL_cons rfl (okTrimL_cons rfl (okTrimL_cons rfl (okTrimL_cons rfl (okTrimL_cons rfl (okTrimL_cons rfl (okTrimL_cons rfl (okTrimL_cons rfl (okTrimL_cons rfl rfl)))))))))))))))))))))) (by kernel_rfl)
    ·
     intro j2 h
     refine w_start (by dsimp only [setAll, topAll, List.foldl, List.set]) rfl ?_
     refine w_region (k0 := 0) (id := 7) ?_
     obtain ⟨g3, h⟩ := chk_e h
     refine w_op (a := .raw (.int .i64 (s1.1 + 1))) rfl rfl rfl (op_q (q_add rfl rfl rfl rfl g3.1 g3.2)) (by dsimp only [aput, List.set]) ?_
     refine w_op (a := .raw (.int .i64 (s1.1 + 1))) rfl rfl rfl rfl (by dsimp only [aput, List.set]) ?_
     refine loop_next (p := p1) ((s1.1 + 1), (j2.1, j2.2)) h ?_
     exact wm_of [false, false, false, true, false, false, false, true, true, true, false, false, false, false, false, false, false, false, false, false, false] (by kernel_rfl) (by kernel_rfl)
   ·
    refine w_condF hc1 rfl ?_
    refine loop_exit h (fun h => ?_)
    refine cut_done (o := or1) ((s1.2.1, s1.2.2)) h ?_
    exact wm_of [false, false, false, true, false, false, false, false, false, false, false, false, false, false, false, false, false, false, false, false, false] (by kernel_rfl) (by kernel_rfl)
 ·
  intro j1 h
  refine w_start (by dsimp only [setAll, topAll, List.foldl, List.set]) rfl ?_
  refine w_seq (w_region ?_)
  refine w_snd (r := .raw (.string (bs j1.2))) (σ' := (ownSt [(26, (Enc.cells (t : Trc))), (71, (bldC 1 j1.1 j1.2))] 5 (List.length (j1.2 : List UInt8)) 1)) (bld_string (u := j1.1) (l := j1.2) rfl) rfl rfl ⟨rfl, rfl⟩ (by dsimp only [aput, List.set]) ?_
  refine w_op (a := .raw (.string (bs j1.2))) rfl rfl rfl rfl (by dsimp only [aput, List.set]) ?_
  exact end_pureF (fun (r : (List UInt8)) => (.raw (.string (bs r)) : AV)) h (a := .raw (.string (bs j1.2))) rfl rfl rfl
end Go.Ab
