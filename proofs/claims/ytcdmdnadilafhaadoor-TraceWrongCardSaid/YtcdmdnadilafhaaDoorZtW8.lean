/-
  trace: Sent.
-/
import Derived.Test.YtcdmdnadilafhaaDoorZtQs
import Derived.Test.YtcdmdnadilafhaaDoorZtNm
import Derived.Test.YtcdmdnadilafhaaDoorZtW7
set_option linter.unusedSimpArgs false
set_option linter.unusedVariables false
namespace Go.Ab
open Go Go.RowKit Go.Fwd
section
variable {IT : IterP} {P : Program} {W : Owed} {k0 : Nat}
theorem w_seqAny {id : Nat} {ops : Array Oper} {y : Code} {Q : AQ} {S : List AV} {σ : St} (S1 : List AV) (σ1 : St) (h : aany IT P W ops (fun S σ => Wk k0 S σ S1 σ1) ops.size (Array.replicate ops.size false) S σ) (hrest : awp IT P W k0 y Q S1 σ1) : awp IT P W k0 (.seq (.region id ops true) y) Q S σ :=
  .inr (.inr (.inl (aany_mono (fun S σ hw => ⟨S1, σ1, hw, hrest⟩) _ _ _ _ h)))
theorem aany_intro {ops0 : Array Oper} {FIN0 : List AV → St → Prop} {k : Nat} {l : Array Bool} {S : List AV} {σ : St} (h : ∀ ops, ops = ops0 → ∀ FIN : List AV → St → Prop, (∀ S σ, FIN0 S σ → FIN S σ) → ∀ S0, S0 = S → aany IT P W ops FIN k l S0 σ) : aany IT P W ops0 FIN0 k l S σ := h ops0 rfl FIN0 (fun _ _ h => h) S rfl
theorem aopAt_s {ops ops0 : Array Oper} {K : List AV → St → Prop} {i : Nat} {o : Oper} {S : List AV} {σ : St} (hops : ops = ops0) (ho : ops0[i]? = some o) (h : aops IT P W ops K [o] S σ) : aopAt IT P W ops K i S σ := by
  subst hops
  unfold aopAt
  rw [ho]
  simp only [aops] at h
  exact h
theorem aany_n {ops ops0 : Array Oper} {FIN : List AV → St → Prop} {k : Nat} {bs : List Bool} {S : List AV} {σ : St} (hops : ops = ops0) (is : List Nat) (hr : Region.ready .any ops0 ⟨bs⟩ = is) (hne : is ≠ []) (h : ∀ i ∈ is, aopAt IT P W ops (fun S σ => aany IT P W ops FIN k ⟨bs.set i true⟩ S σ) i S σ) : aany IT P W ops FIN (k + 1) ⟨bs⟩ S σ := by
  subst hops
  refine ⟨fun e => absurd (hr.symm.trans e) hne, fun i hi => ?_⟩
  have h1 := h i (hr ▸ hi)
  have e : (⟨bs⟩ : Array Bool).setIfInBounds i true = ⟨bs.set i true⟩ := by
    apply Array.ext'
    simp
  rw [e]; exact h1
theorem aany_0 {ops ops0 : Array Oper} {FIN : List AV → St → Prop} {bs : List Bool} {S : List AV} {σ : St} (hops : ops = ops0) (hr : Region.ready .any ops0 ⟨bs⟩ = []) (h : FIN S σ) : aany IT P W ops FIN 0 ⟨bs⟩ S σ := by
  subst hops
  exact ⟨hr, h⟩
theorem all_nil {p : Nat → Prop} : ∀ i ∈ ([] : List Nat), p i := fun i h => by cases h
theorem all_cons {p : Nat → Prop} {a : Nat} {l : List Nat} (h : p a) (t : ∀ i ∈ l, p i) : ∀ i ∈ a :: l, p i := fun i hi => by
  rcases List.mem_cons.1 hi with rfl | hi
  · exact h
  · exact t i hi
end
section
variable {P : Program} {ρ : Operand → AV} {σ : St} {o : Oper} {α : Type} [Enc α]
end
section
variable {m : Nat} {g : FZ}
theorem fgK_nil : fgM [] (mapKL m g []) = [] := by rw [mapKL]; rfl
theorem fgK_t {a b : AV} {S S' : List AV} {ms : List Bool} (h : mapK m g a = b) (r : fgM ms (mapKL m g S) = S') : fgM (true :: ms) (mapKL m g (a :: S)) = b :: S' := by
  rw [mapKL]; show (bif true then mapK m g a else .top) :: _ = _; rw [r, h]; rfl
theorem fgK_f {a : AV} {S S' : List AV} {ms : List Bool} (r : fgM ms (mapKL m g S) = S') : fgM (false :: ms) (mapKL m g (a :: S)) = .top :: S' := by
  rw [mapKL]; show (bif false then mapK m g a else .top) :: _ = _; rw [r]; rfl
theorem mapKL_nil' : mapKL m g [] = [] := by rw [mapKL]
theorem mapKL_cons' {a b : AV} {l l' : List AV} (h : mapK m g a = b) (r : mapKL m g l = l') : mapKL m g (a :: l) = b :: l' := by rw [mapKL, h, r]
theorem kz_bsl {α : Type} [Enc α] {bs : List (TypeId × List AV)} {js : List Nat} {d s n : Nat} {f : Bool} {t : TypeId} {l : List α} (hn : l.length = n) (hb : bs[s]? = some (t, Enc.cellsL l)) (hp : place 0 [] js s = none) : mapK m (kz bs m 0 [] js (d + 1)) (.bsl s 0 n (Enc.sz α) f) = .list l.length (Enc.cellsL l) .none := by
  subst hn
  rw [mapK]
  simp only [kz, hp, hb, Option.map_some, Option.getD_some, List.drop_zero, mapKL_clo _ _ _ (Enc.cloL l)]
  rw [List.take_of_length_le (by rw [Enc.lenL]; exact Nat.le_refl _)]
theorem keep_nil {bs : List (TypeId × List AV)} {n d : Nat} {fs js0 : List Nat} : (([] : List Nat).map fun j => ((bs[j]?).map fun b => (b.1, mapKL m (kz bs m n fs js0 d) b.2)).getD (0, [.bad])) = [] := rfl
theorem keep_cons {bs : List (TypeId × List AV)} {n d j : Nat} {fs js js0 : List Nat} {t : TypeId} {cs cs' : List AV} {r : List (TypeId × List AV)} (hb : bs[j]? = some (t, cs)) (hc : mapKL m (kz bs m n fs js0 d) cs = cs') (hr : (js.map fun j => ((bs[j]?).map fun b => (b.1, mapKL m (kz bs m n fs js0 d) b.2)).getD (0, [.bad])) = r) :
    ((j :: js).map fun j => ((bs[j]?).map fun b => (b.1, mapKL m (kz bs m n fs js0 d) b.2)).getD (0, [.bad])) = (t, cs') :: r := by
  rw [List.map_cons, hr, hb]
  simp only [Option.map_some, Option.getD_some, hc]
theorem keep_of {σ σ' : St} {d : Nat} {js : List Nat} {bs' : List (TypeId × List AV)} (h : (js.map fun j => ((σ.boxes[j]?).map fun b => (b.1, mapKL m (kz σ.boxes m 0 [] js d) b.2)).getD (0, [.bad])) = bs') (h2 : { σ with boxes := bs', lens := σ.lens.take m, elems := σ.elems.take m } = σ') : keepSt σ m 0 [] js d = σ' := by
  subst h2
  unfold keepSt keepBoxes
  rw [h]
  rfl
end
end Go.Ab
set_option linter.unusedSimpArgs false
set_option linter.unusedVariables false
set_option maxRecDepth 100000
namespace Go.Ab
open Go Go.RowKit Go.Fwd Go.Proofs
set_option maxHeartbeats 1000000 in
set_option maxRecDepth 100000 in
theorem str_none (b : Nat) (w : World) (h1 : w.cell? ⟨b, 1, none⟩ = some (.slice none 0 0)) :
    Calls Tryd.prog 36 #[.pointer (some ⟨b, 0, none⟩)] w fun e w' => e = .returned (.string ⟨#[]⟩) ∧ w' = w.drew := by
  have c1 : w.drew.cell? ⟨b, 1, none⟩ = some (.slice none 0 0) := h1
  have hSD : (Builtin.unsafeSliceData_ #[66] 97 #[.slice none 0 0]).run Tryd.prog w.drew = .ok (.pointer none) w.drew := Lib.run_unsafeSliceData_nil _ _ _ _ _
  have hUS : (Builtin.unsafeString_ #[97, 3] 9 #[.pointer none, .int .i64 0]).run Tryd.prog w.drew = .ok (.string .empty) w.drew := Lib.run_unsafeString_none _ _ _ _ _
  go_enter Tryd.func36, Tryd.ntmps36
  go_wp2
  go_region
  all_goals (go_wp2; go_ret; exact ⟨rfl, rfl⟩)
def bufA (l : List UInt8) : AV := if l.length = 0 then .raw (.slice none 0 0) else .list l.length (Enc.cellsL l) (.own 0)
def bldC (s : Nat) (u : Bool) (l : List UInt8) : List AV := [bif u then .ptr s 0 else .raw (.pointer none), bufA l]
theorem bufA_cons {l : List UInt8} (h : ¬ l.length = 0) : bufA l = .list l.length (Enc.cellsL l) (.own 0) := by unfold bufA; rw [if_neg h]
theorem byteCells_bs (b : List UInt8) : (byteCells (bs b)).map AV.raw = Enc.cellsL b := by
  simp [byteCells, bs]
  rfl
theorem rd_buf (l : List UInt8) : rd Tryd.prog 66 [bufA l] = some (bufA l) := by
  unfold bufA; split <;> rfl
theorem ok_buf (l : List UInt8) : cellOk (bufA l) = true ∧ cellsOf (bufA l) = [bufA l] := by
  unfold bufA; split <;> exact ⟨rfl, rfl⟩
theorem app_buf {bx : List (TypeId × List AV)} {ρ : Operand → AV} {o : Oper} {x y : Operand} (l b : List UInt8) (g : (l.length + b.length) * 1 ≤ 140737488355328) (ho : o.op = .call ⟨.builtin .append, #[x, y], #[66, 9]⟩) (hx : ρ x = bufA l) (hy : ρ y = .raw (.string (bs b))) :
    AopR Tryd.prog ρ (ownSt bx 5 l.length 1) o (bufA (l ++ b)) (ownSt bx 5 (l ++ b).length 1) := by
  have hmax : 140737488355328 ≤ maxLen := by decide
  have hbs : (bs b).size = b.length := rfl
  have hbc := byteCells_bs b
  by_cases hl : l.length = 0
  · have hl0 := List.length_eq_zero_iff.1 hl
    subst hl0
    refine .inr (.inr (.inl ?_))
    have hn : isNilS (ρ x) = true := by rw [hx]; rfl
    simp only [aopB, ho, hn, if_true]
    rw [hy]
    by_cases hb : b.length = 0
    · have hb0 := List.length_eq_zero_iff.1 hb
      subst hb0
      rfl
    · have h1 : ¬ (bs b).size = 0 := by rw [hbs]; exact hb
      simp only [aAppN, if_neg h1]
      have hc : ([] : List AV).length = 0 * 1 ∧ True ∧ 0 < (bs b).size ∧ True ∧ 0 < 1 ∧ 0 + (bs b).size ≤ maxLen ∧ (0 + (bs b).size) * 1 ≤ 140737488355328 := ⟨rfl, trivial, by rw [hbs]; omega, trivial, by decide, by rw [hbs]; omega, by rw [hbs]; omega⟩
      have hi : ∃ i z, Tryd.prog.info? 5 = some i ∧ i.zero = some z ∧ i.size = 1 ∧ z.cells.size = 1 ∧ i.bytes = 1 := ⟨_, _, rfl, rfl, rfl, rfl, rfl⟩
      obtain ⟨i, z, i1, i2, i3, i4, i5⟩ := hi
      have u1 : Tryd.prog.underlying 66 = some (.slice 5) := by kernel_rfl
      simp only [aAppS, u1, und9, i1, i2, i3, i4, i5]
      rw [if_neg (fun h => h1 h.1), if_pos hc, hbc, bufA_cons (by simpa using hb)]
      simp [ownSt, hb, hbs]
  · by_cases hb : b.length = 0
    · have hb0 := List.length_eq_zero_iff.1 hb
      subst hb0
      refine .inl ?_
      have hq : qop Tryd.prog ρ (ownSt bx 5 l.length 1) o = none := by
        simp only [qop, ho, hx, hy, bufA_cons hl]
        first | done | simp [rawOp, ho, Op.operands, Call.operands, hx, hy, bufA_cons hl, toVal]
      have hi : ∃ i z, Tryd.prog.info? 5 = some i ∧ i.zero = some z ∧ i.size = 1 := ⟨_, _, rfl, rfl, rfl⟩
      obtain ⟨i, z, i1, i2, i3⟩ := hi
      have u1 : Tryd.prog.underlying 66 = some (.slice 5) := by kernel_rfl
      simp only [aop, hq, ho]
      rw [if_neg (by decide), hx, hy, bufA_cons hl]
      simp only [aAppS, u1, und9, i1, i2, i3]
      rw [if_pos ⟨rfl, trivial⟩, List.append_nil, bufA_cons hl]
    · refine .inl ?_
      have hq : qop Tryd.prog ρ (ownSt bx 5 l.length 1) o = none := by
        simp only [qop, ho, hx, hy, bufA_cons hl]
        first | done | simp [rawOp, ho, Op.operands, Call.operands, hx, hy, bufA_cons hl, toVal]
      have hi : ∃ i z, Tryd.prog.info? 5 = some i ∧ i.zero = some z ∧ i.size = 1 ∧ z.cells.size = 1 ∧ i.bytes = 1 := ⟨_, _, rfl, rfl, rfl, rfl, rfl⟩
      obtain ⟨i, z, i1, i2, i3, i4, i5⟩ := hi
      have u1 : Tryd.prog.underlying 66 = some (.slice 5) := by kernel_rfl
      have h1 : ¬ (bs b).size = 0 := by rw [hbs]; exact hb
      have hc : (Enc.cellsL l).length = l.length * 1 ∧ True ∧ 0 < (bs b).size ∧ True ∧ 0 < 1 ∧ l.length + (bs b).size ≤ maxLen ∧ (l.length + (bs b).size) * 1 ≤ 140737488355328 := ⟨Enc.lenL l, trivial, by rw [hbs]; omega, trivial, by decide, by rw [hbs]; omega, by rw [hbs]; omega⟩
      have hlen : (Enc.cellsL l).length = l.length := by rw [hc.1, Nat.mul_one]
      simp only [aop, hq, ho]
      rw [if_neg (by decide), hx, hy, bufA_cons hl]
      simp only [aAppS, u1, und9, i1, i2, i3, i4, i5]
      have hown : (ownSt bx 5 l.length 1).lens[0]? = some (Enc.cellsL l).length ∧ (ownSt bx 5 l.length 1).elems[0]? = some 5 ∧ 0 < l.length := ⟨by simp [ownSt, hl, hlen], by simp [ownSt, hl], by omega⟩
      rw [if_neg (fun h => h1 h.1), if_pos hc, hbc, if_pos hown, bufA_cons (by rw [List.length_append]; omega), Enc.app]
      simp [ownSt, hl, hbs]
section
variable {IT : IterP} {P : Program} {W : Owed} {k0 : Nat}
theorem w_opR {ops : Array Oper} {Q : List AV → St → Prop} {o : Oper} {l : List Oper} {S S' : List AV} {σ σ' : St} {a : AV} (hg : o.guard = none) (hc : acall S o = none) (hy : ayield S o = none) (h : AopR P (aval S) σ o a σ') (hS : aput S o.dst a = S') (k : aops IT P W ops Q l S' σ') : aops IT P W ops Q (o :: l) S σ := by
  simp only [aops, hg, astep, hc, hy]
  exact .inl ⟨a, σ', h, by rw [hS]; exact k⟩
theorem ends_id {P : Program} {n m : Nat} {σ : St} {a : AV} : EndsS P n m σ a a σ := fun X Y v hE _ _ hI hv => ⟨Y, rfl, hE, hI, hv⟩
theorem end_id {P : Program} {fn : Func} {S : List AV} {σ : St} {n m : Nat} {a r : AV} (h : aResults P fn σ S = some a) (hr : a = r) : aendS P fn n m r σ .ret S σ := ⟨a, h, hr ▸ ends_id⟩
end
theorem set_same {α : Type} {l : List α} {s : Nat} {a : α} (h : l[s]? = some a) : l.set s a = l := by
  apply List.ext_getElem?
  intro i
  by_cases e : s = i
  · subst e
    have := (List.getElem?_eq_some_iff.1 h).1
    rw [List.getElem?_set_self this, h]
  · rw [List.getElem?_set_ne e]
theorem cc_snd {bx : List (TypeId × List AV)} {s n : Nat} {u : Bool} {x : AV} (hb : bx[s]? = some (71, [bif u then .ptr s 0 else .raw (.pointer none), x])) : Snd (ITP Tryd.prog) Tryd.prog 49 [.ptr s 0] (ownSt bx 5 n 1) (.tup []) (ownSt (bx.set s (71, [.ptr s 0, x])) 5 n 1) := by
  cases u with
  | false => exact cc_snd1 (σ := ownSt bx 5 n 1) (s := s) (x := x) hb
  | true =>
    have hb' : bx[s]? = some (71, [.ptr s 0, x]) := hb
    rw [set_same hb']
    exact cc_snd2 (σ := ownSt bx 5 n 1) (s := s) (x := x) hb
theorem ent33 : Ent Tryd.prog 33 := enters_of Tryd.func33 (by kernel_rfl) rfl
set_option maxRecDepth 100000 in
set_option maxHeartbeats 4000000 in
theorem bld_write {bx : List (TypeId × List AV)} {s : Nat} {u : Bool} {l b : List UInt8} (g : (l.length + b.length) * 1 ≤ 140737488355328) (hb : bx[s]? = some (71, bldC s u l)) :
    Snd (ITP Tryd.prog) Tryd.prog 33 [.ptr s 0, .raw (.string (bs b))] (ownSt bx 5 l.length 1) (.tup [.raw (.int .i64 b.length), .raw .nilIface]) (ownSt (bx.set s (71, bldC s true (l ++ b))) 5 (l ++ b).length 1) := by
  obtain ⟨d, hd⟩ : ∃ d, Tryd.f33.body = some d := ⟨_, rfl⟩
  refine snd_of mix Tryd.func33 hd ent33 ?_
  cases hd
  have hs : s < bx.length := (List.getElem?_eq_some_iff.1 hb).1
  refine w_start (by dsimp only [abeginS, Tryd.f33, List.length_cons, List.length_nil, Nat.zero_add, Nat.reduceAdd, Nat.reduceSub, List.replicate, List.cons_append, List.nil_append]) rfl ?_
  refine w_seq (w_region ?_)
  refine w_op (a := .raw (.int .i64 0)) rfl rfl rfl rfl (by dsimp only [aput, List.set]) ?_
  refine w_op (a := .raw .nilIface) rfl rfl rfl rfl (by dsimp only [aput, List.set]) ?_
  refine w_seq (w_region ?_)
  refine w_op (a := .ptr s 0) rfl rfl rfl rfl (by dsimp only [aput, List.set]) ?_
  refine w_snd (cc_snd hb) rfl rfl ⟨rfl, rfl⟩ (by dsimp only [aput, List.set]) ?_
  have hb1 : (bx.set s (71, [.ptr s 0, bufA l]))[s]? = some (71, [.ptr s 0, bufA l]) := List.getElem?_set_self hs
  have hfin : (bx.set s (71, [.ptr s 0, bufA l])).set s (71, bldC s true (l ++ b)) = bx.set s (71, bldC s true (l ++ b)) := List.set_set ..
  generalize bx.set s (71, [.ptr s 0, bufA l]) = bx1 at hb1 hfin
  rw [← hfin]
  refine w_seq (w_region ?_)
  refine w_op (a := .ptr s 0) rfl rfl rfl rfl (by dsimp only [aput, List.set]) ?_
  refine w_op (a := .ptr s 0) rfl rfl rfl rfl (by dsimp only [aput, List.set]) ?_
  refine w_op (a := .ptr s 0) rfl rfl rfl rfl (by dsimp only [aput, List.set]) ?_
  refine w_op (a := .ptr s 1) rfl rfl rfl rfl (by dsimp only [aput, List.set]) ?_
  refine w_op rfl rfl rfl (op_load (a := bufA l) (.ptr s 1) rfl rfl (by show (match bx1[s]? with | some bx => rd Tryd.prog 66 (bx.2.drop 1) | none => none) = _; rw [hb1]; exact rd_buf l)) (by dsimp only [aput, List.set]) ?_
  refine w_op (a := .raw (.string (bs b))) rfl rfl rfl rfl (by dsimp only [aput, List.set]) ?_
  refine w_opR rfl rfl rfl (app_buf l b g rfl rfl rfl) (by dsimp only [aput, List.set]) ?_
  refine w_op (a := .ptr s 0) rfl rfl rfl rfl (by dsimp only [aput, List.set]) ?_
  refine w_op (a := .ptr s 1) rfl rfl rfl rfl (by dsimp only [aput, List.set]) ?_
  refine w_opm (σ'' := ownSt (bx1.set s (71, bldC s true (l ++ b))) 5 (l ++ b).length 1) rfl rfl rfl (op_store (n := 1) (v := bufA (l ++ b)) (bx := (71, [.ptr s 0, bufA l])) rfl rfl rfl hb1 rfl ⟨(ok_buf _).1, by rw [(ok_buf _).2]; rfl, Nat.le_refl 2, Nat.one_pos⟩) (by dsimp only [aput, List.set]) (by rw [(ok_buf _).2]; rfl) ?_
  refine w_seq (w_region ?_)
  refine w_op (a := .raw (.string (bs b))) rfl rfl rfl rfl (by dsimp only [aput, List.set]) ?_
  refine w_op (a := .raw (.int .i64 b.length)) rfl rfl rfl (op_q (q_lenS rfl rfl rfl)) (by dsimp only [aput, List.set]) ?_
  refine w_op (a := .raw (.int .i64 b.length)) rfl rfl rfl rfl (by dsimp only [aput, List.set]) ?_
  refine w_op (a := .raw .nilIface) rfl rfl rfl rfl (by dsimp only [aput, List.set]) ?_
  exact end_id rfl rfl
theorem okT_bld {n s : Nat} {u : Bool} {l : List UInt8} (h : s < n) : okTrimL n (bldC s u l) = true := by
  have h1 : okTrim n (bufA l) = true := by
    unfold bufA
    split
    · rfl
    · rw [okTrim, okTrimL_clo n _ (Enc.cloL l)]
  have h2 : okTrim n (bif u then .ptr s 0 else .raw (.pointer none)) = true := by
    cases u with
    | true => show decide (s < n) = true; exact decide_eq_true h
    | false => rfl
  unfold bldC
  rw [okTrimL, okTrimL, h1, h2, okTrimL]; rfl
theorem bytesOfA_cells : ∀ l : List UInt8, bytesOfA (Enc.cellsL l) = some l
  | [] => rfl
  | a :: l => by
    show bytesOfA (.raw (.int .u8 ((a.toNat : Nat) : Int)) :: Enc.cellsL l) = _
    have h := a.toNat_lt
    have h1 : (0 : Int) ≤ ((a.toNat : Nat) : Int) ∧ ((a.toNat : Nat) : Int) < 256 := by omega
    rw [bytesOfA, if_pos h1, bytesOfA_cells l]
    simp
theorem bld_string {bx : List (TypeId × List AV)} {s : Nat} {u : Bool} {l : List UInt8} (hb : bx[s]? = some (71, bldC s u l)) : Snd (ITP Tryd.prog) Tryd.prog 36 [.ptr s 0] (ownSt bx 5 l.length 1) (.raw (.string (bs l))) (ownSt bx 5 l.length 1) := by
  by_cases hl : l.length = 0
  · have hl0 := List.length_eq_zero_iff.1 hl
    subst hl0
    refine ⟨ent36, fun X us hI hr => ?_⟩
    obtain ⟨a, l', rfl, ⟨b, hκ, rfl⟩, hl'⟩ := hr
    have hl' : l' = [] := hl'
    subst hl'
    obtain ⟨vs, zs, u1, u2, u3⟩ := hI.box s b 71 _ hκ hb
    obtain ⟨a0, r0, rfl, h0, a1, r1, rfl, hx, h5⟩ := u2
    have h5 : r1 = [] := h5
    subst h5
    have hx : a1 = .slice none 0 0 := hx
    subst hx
    refine (str_none b X.w (by simp [World.cell?, u1])).mono ?_
    rintro e w' ⟨rfl, rfl⟩
    obtain ⟨d1, d2⟩ := inv_drew (itp_mono _) hI
    exact ⟨_, _, rfl, rfl, d1, d2, rfl⟩
  · have hb' : (ownSt bx 5 l.length 1).boxes[s]? = some (71, [bif u then .ptr s 0 else .raw (.pointer none), .list l.length (Enc.cellsL l) (.own 0)]) := by
      rw [← bufA_cons hl]; exact hb
    exact str_snd (s := s) (k := 0) hb' (bytesOfA_cells l) (by simp [ownSt, hl]) (by rw [Enc.lenL]; show l.length * 1 = _; omega) (by omega) (by simp [ownSt, hl])
end Go.Ab
set_option linter.unusedSimpArgs false
set_option linter.unusedVariables false
namespace Go.Ab
open Go Go.RowKit Go.Fwd Go.Proofs
end Go.Ab

