/-
  Operations on strings.
-/
import Derived.Test.YtcdmdnadilafhaaGreatDoorZdSh
set_option linter.unusedSimpArgs false
set_option linter.unusedVariables false
namespace Go.Ab
open Go Go.RowKit Go.Fwd
section
variable {IT : IterP} {P : Program} {W : Owed} {k0 : Nat}
variable {ops : Array Oper} {σ : St} {pl : List Pe} {K : List AV → Prop} {o : Oper} {l : List Oper} {S S' : List AV} {k : Nat}
end
end Go.Ab
set_option linter.unusedSimpArgs false
set_option linter.unusedVariables false
namespace Go.Ab
open Go Go.RowKit Go.Fwd
section
variable {IT : IterP} {P : Program} {W : Owed} {k0 : Nat}
theorem zc8 {id : Nat} {ops : Array Oper} {y : Code} {Q : AQ} {S : List AV} {σ : St} (S1 : List AV) (σ1 : St) (h : zma IT P W ops (fun S σ => Wk k0 S σ S1 σ1) ops.size (Array.replicate ops.size false) S σ) (hrest : awp IT P W k0 y Q S1 σ1) : awp IT P W k0 (.seq (.region id ops true) y) Q S σ :=
 .inr (.inr (.inl (ze2 (fun S σ hw => ⟨S1, σ1, hw, hrest⟩) _ _ _ _ h)))
theorem zbs {ops0 : Array Oper} {FIN0 : List AV → St → Prop} {k : Nat} {l : Array Bool} {S : List AV} {σ : St} (h : ∀ ops, ops = ops0 → ∀ FIN : List AV → St → Prop, (∀ S σ, FIN0 S σ → FIN S σ) → ∀ S0, S0 = S → zma IT P W ops FIN k l S0 σ) : zma IT P W ops0 FIN0 k l S σ := h ops0 rfl FIN0 (fun _ _ h => h) S rfl
theorem aopAt_s {ops ops0 : Array Oper} {K : List AV → St → Prop} {i : Nat} {o : Oper} {S : List AV} {σ : St} (hops : ops = ops0) (ho : ops0[i]? = some o) (h : zbw IT P W ops K [o] S σ) : zqm IT P W ops K i S σ := by
 subst hops
 unfold zqm
 rw [ho]
 simp only [zbw] at h
 exact h
theorem aany_n {ops ops0 : Array Oper} {FIN : List AV → St → Prop} {k : Nat} {bs : List Bool} {S : List AV} {σ : St} (hops : ops = ops0) (is : List Nat) (hr : Region.ready .any ops0 ⟨bs⟩ = is) (hne : is ≠ []) (h : ∀ i ∈ is, zqm IT P W ops (fun S σ => zma IT P W ops FIN k ⟨bs.set i true⟩ S σ) i S σ) : zma IT P W ops FIN (k + 1) ⟨bs⟩ S σ := by
 subst hops
 refine ⟨fun e => absurd (hr.symm.trans e) hne, fun i hi => ?_⟩
 have h1 := h i (hr ▸ hi)
 have e : (⟨bs⟩ : Array Bool).setIfInBounds i true = ⟨bs.set i true⟩ := by
  apply Array.ext'
  simp
 rw [e]; exact h1
theorem aany_0 {ops ops0 : Array Oper} {FIN : List AV → St → Prop} {bs : List Bool} {S : List AV} {σ : St} (hops : ops = ops0) (hr : Region.ready .any ops0 ⟨bs⟩ = []) (h : FIN S σ) : zma IT P W ops FIN 0 ⟨bs⟩ S σ := by
 subst hops
 exact ⟨hr, h⟩
theorem zfc {p : Nat → Prop} : ∀ i ∈ ([] : List Nat), p i := fun i h => by cases h
theorem all_cons {p : Nat → Prop} {a : Nat} {l : List Nat} (h : p a) (t : ∀ i ∈ l, p i) : ∀ i ∈ a :: l, p i := fun i hi => by
 rcases List.mem_cons.1 hi with rfl | hi
 ·exact h
 ·exact t i hi
end
section
variable {P : Program} {ρ : Operand → AV} {σ : St} {o : Oper} {α : Type} [Enc α]
theorem q_idxB {t e : TypeId} {x i : Operand} {s n : Nat} {f : Bool} {k : IntKind} {j : Int} (g : 0 ≤ j ∧ j < n) (ho : o.op = .indexAddr t x i) (hx : ρ x = .bsl s 0 n (Enc.sz α) f) (hi : ρ i = .raw (.int k j)) (hu : P.underlying t = some (.slice e)) (hs : zc7 P e = some (Enc.sz α)) :
 qop P ρ σ o = some (.ptr s (0 + j.toNat * Enc.sz α)) := zzx ho hx hi hu hs g
theorem Enc.putK {l : List α} {i : Int} {x : α} {k n : Nat} {cs : List AV} (g : 0 ≤ i ∧ i < l.length) (hl : cs.length = n) (hk : k + n ≤ Enc.sz α) (hx : Enc.cells x = (Enc.cells (ix l i)).take k ++ cs ++ (Enc.cells (ix l i)).drop (k + n)) :
 (Enc.cellsL l).take (0 + i.toNat * Enc.sz α + k) ++ cs ++ (Enc.cellsL l).drop (0 + i.toNat * Enc.sz α + k + n) = Enc.cellsL (l.set i.toNat x) := by
 have hi : i.toNat < l.length := by omega
 have hset : l.set i.toNat x = l.take i.toNat ++ [x] ++ l.drop (i.toNat + 1) := by
  rw [List.set_eq_take_append_cons_drop, if_pos hi]; simp
 have hlen := Enc.len (ix l i)
 have e1 : (Enc.cellsL l).drop (i.toNat * Enc.sz α) = Enc.cells (ix l i) ++ Enc.cellsL (l.drop (i.toNat + 1)) := Enc.at g
 have e2 : (Enc.cellsL l).take (0 + i.toNat * Enc.sz α + k) = Enc.cellsL (l.take i.toNat) ++ (Enc.cells (ix l i)).take k := by
  rw [Nat.zero_add, List.take_add, Enc.take, e1, List.take_append_of_le_length (by omega)]
 have e3 : (Enc.cellsL l).drop (0 + i.toNat * Enc.sz α + k + n) = (Enc.cells (ix l i)).drop (k + n) ++ Enc.cellsL (l.drop (i.toNat + 1)) := by
  rw [Nat.zero_add, Nat.add_assoc, ← List.drop_drop, e1, List.drop_append_of_le_length (by omega)]
 rw [e2, e3, hset, Enc.app, Enc.app, Enc.cons, Enc.nil, hx]
 simp
theorem zyd {l : List α} {i : Int} {k s n : Nat} {te t : TypeId} {x y : Operand} {v : AV} (x' : α) (g : 0 ≤ i ∧ i < l.length) (ho : o.op = .store t x y) (hx : ρ x = .ptr s (0 + i.toNat * Enc.sz α + k)) (hy : ρ y = v) (hb : σ.boxes[s]? = some (te, Enc.cellsL l)) (hn : zc7 P t = some n) (hc : zfk v = true) (hl : (cellsOf v).length = n) (h0 : 0 < n) (hk : k + n ≤ Enc.sz α)
 (hx' : Enc.cells x' = (Enc.cells (ix l i)).take k ++ cellsOf v ++ (Enc.cells (ix l i)).drop (k + n)) : aop P ρ σ o = some (.raw undef, { σ with boxes := σ.boxes.set s (te, Enc.cellsL (l.set i.toNat x')) }) := by
 have hfit : 0 + i.toNat * Enc.sz α + k + n ≤ (Enc.cellsL l).length := by
  rw [Enc.lenL]
  have h1 : i.toNat + 1 ≤ l.length := by omega
  have h2 := Nat.mul_le_mul_right (Enc.sz α) h1
  rw [Nat.succ_mul] at h2
  omega
 rw [zca (n := n) ho hx hy hb hn ⟨hc, hl, hfit, h0⟩, Enc.putK g hl hk hx']
end
section
variable {m : Nat} {g : FZ}
theorem fgK_nil : fgM [] (zby m g []) = [] := by rw [zby]; rfl
theorem fgK_t {a b : AV} {S S' : List AV} {ms : List Bool} (h : zjy m g a = b) (r : fgM ms (zby m g S) = S') : fgM (true :: ms) (zby m g (a :: S)) = b :: S' := by
 rw [zby]; show (bif true then zjy m g a else .top) :: _ = _; rw [r, h]; rfl
theorem zb8 {a : AV} {S S' : List AV} {ms : List Bool} (r : fgM ms (zby m g S) = S') : fgM (false :: ms) (zby m g (a :: S)) = .top :: S' := by
 rw [zby]; show (bif false then zjy m g a else .top) :: _ = _; rw [r]; rfl
theorem zwf : zby m g [] = [] := by rw [zby]
theorem zil {a b : AV} {l l' : List AV} (h : zjy m g a = b) (r : zby m g l = l') : zby m g (a :: l) = b :: l' := by rw [zby, h, r]
theorem zzo {l l' : List AV} (r : zby m g l = l') : zjy m g (.agg l) = .agg l' := by rw [zjy, r]
theorem zlj : zbk g [] = [] := by rw [zbk]
theorem zdr {a b : AV} {l l' : List AV} (h : zdh g a = b) (r : zbk g l = l') : zbk g (a :: l) = b :: l' := by rw [zbk, h, r]
theorem ztf {l l' : List AV} (r : zbk g l = l') : zdh g (.agg l) = .agg l' := by rw [zdh, r]
theorem zie {a : AV} (h : clo a = true) : zdh g a = a := by
 have := zc5 g [a] (by rw [cloL, h]; rfl)
 rw [zbk] at this
 exact (List.cons.inj this).1
theorem kz_bsl {α : Type} [Enc α] {bs : List (TypeId × List AV)} {js : List Nat} {d s n : Nat} {f : Bool} {t : TypeId} {l : List α} (hn : l.length = n) (hb : bs[s]? = some (t, Enc.cellsL l)) (hp : zdp 0 [] js s = none) : zjy m (kz bs m 0 [] js (d + 1)) (.bsl s 0 n (Enc.sz α) f) = .list l.length (Enc.cellsL l) .none := by
 subst hn
 rw [zjy]
 simp only [kz, hp, hb, Option.map_some, Option.getD_some, List.drop_zero, zcp _ _ _ (Enc.cloL l)]
 rw [List.take_of_length_le (by rw [Enc.lenL]; exact Nat.le_refl _)]
theorem zzn {α : Type} [Enc α] {bs : List (TypeId × List AV)} {d s n : Nat} {f : Bool} {t : TypeId} {l : List α} (hn : l.length = n) (hb : bs[s]? = some (t, Enc.cellsL l)) : zdh (frz bs (d + 1)) (.bsl s 0 n (Enc.sz α) f) = .list l.length (Enc.cellsL l) .none := by
 subst hn
 rw [zdh]
 simp only [frz, hb, Option.map_some, Option.getD_some, List.drop_zero, zc5 _ _ (Enc.cloL l)]
 rw [List.take_of_length_le (by rw [Enc.lenL]; exact Nat.le_refl _)]
theorem zug {bs : List (TypeId × List AV)} {n d : Nat} {fs js0 : List Nat} : (([] : List Nat).map fun j => ((bs[j]?).map fun b => (b.1, zby m (kz bs m n fs js0 d) b.2)).getD (0, [.bad])) = [] := rfl
theorem zx3 {bs : List (TypeId × List AV)} {n d j : Nat} {fs js js0 : List Nat} {t : TypeId} {cs cs' : List AV} {r : List (TypeId × List AV)} (hb : bs[j]? = some (t, cs)) (hc : zby m (kz bs m n fs js0 d) cs = cs') (hr : (js.map fun j => ((bs[j]?).map fun b => (b.1, zby m (kz bs m n fs js0 d) b.2)).getD (0, [.bad])) = r) :
 ((j :: js).map fun j => ((bs[j]?).map fun b => (b.1, zby m (kz bs m n fs js0 d) b.2)).getD (0, [.bad])) = (t, cs') :: r := by
 rw [List.map_cons, hr, hb]
 simp only [Option.map_some, Option.getD_some, hc]
theorem zxm {σ σ' : St} {d : Nat} {js : List Nat} {bs' : List (TypeId × List AV)} (h : (js.map fun j => ((σ.boxes[j]?).map fun b => (b.1, zby m (kz σ.boxes m 0 [] js d) b.2)).getD (0, [.bad])) = bs') (h2 : { σ with boxes := bs', lens := σ.lens.take m, elems := σ.elems.take m } = σ') : zg4 σ m 0 [] js d = σ' := by
 subst h2
 unfold zg4 zbx
 rw [h]
 rfl
theorem len_pos {α : Type} {l : List α} (h : (((l.length : Nat) : Int) == 0) = false) : 0 < l.length := by
 rcases Nat.eq_zero_or_pos l.length with e | e
 ·rw [e] at h; cases h
 ·exact e
end
end Go.Ab
set_option linter.unusedSimpArgs false
set_option linter.unusedVariables false
namespace Go.Ab
open Go Go.RowKit Go.Fwd
section
variable {P : Program} {ρ : Operand → AV} {σ : St} {o : Oper}
theorem bs_get (l : List UInt8) (i : Nat) : (bs l)[i]? = l[i]? := by
 simp only [bs]
 by_cases h : i < l.length
 ·rw [List.getElem?_eq_getElem h]
  have h2 : i < (ByteArray.mk l.toArray).size := h
  rw [getElem?_pos (ByteArray.mk l.toArray) i h2]
  rfl
 ·rw [List.getElem?_eq_none (by omega)]
  have h2 : ¬ i < (ByteArray.mk l.toArray).size := h
  rw [getElem?_neg (ByteArray.mk l.toArray) i h2]
theorem zks (l : List UInt8) (i j : Nat) : (bs l).extract i j = bs ((l.drop i).take (j - i)) := by
 apply ByteArray.ext
 rw [ByteArray.data_extract]
 simp [bs, List.extract_eq_take_drop]
theorem zqo {v : Value} (h1 : o.op.operands.toList.all (fun x => (zcf (ρ x)).isSome) = true) (h2 : ∀ cs b, o.op ≠ .select cs b) (h3 : val? P (execOp (zax ρ) o) = some (.value v)) (h4 : zke v = true) : zda P ρ o = some (zgv v) := by
 unfold zda
 rw [if_pos h1]
 split
 ·rename_i cs b ho; exact absurd ho (h2 cs b)
 ·rw [h3]; simp only [h4, if_true]
theorem zbi {t : TypeId} {x i : Operand} {l : List UInt8} {k : IntKind} {n : Int} (g : 0 ≤ n ∧ n < l.length) (ho : o.op = .index t x i) (hx : ρ x = .raw (.string (bs l))) (hi : ρ i = .raw (.int k n)) (hu : P.underlying t = some .string) :
 qop P ρ σ o = some (.raw (.int .u8 (((ix l n).toNat : Nat) : Int))) := by
 have hn : n.toNat < l.length := by omega
 have h3 : val? P (execOp (zax ρ) o) = some (.value (.int .u8 (((ix l n).toNat : Nat) : Int))) := by
  have hg : (bs l)[n.toNat]? = some (ix l n) := by
   rw [bs_get, List.getElem?_eq_getElem hn]; simp [ix, hn]
  simp only [execOp, ho, zax, hx, hi, zcf, Option.getD_some, Instr.index, asIntOf, underlying]
  simp only [program, Bind.bind, Pure.pure, Functor.map, Sem.bind, val?, hu, if_pos g.1, hg]
 have h1 : o.op.operands.toList.all (fun x => (zcf (ρ x)).isSome) = true := by rw [ho]; simp [Op.operands, hx, hi, zcf]
 have h4 := zqo h1 (by rw [ho]; intros; simp) h3 rfl
 simp only [qop, ho, hx, hi, h4]
 first | rfl | (simp; rfl)
theorem zuf {t : TypeId} {x y z : Operand} {l : List UInt8} {i j : Int} (g : 0 ≤ i ∧ i ≤ j ∧ j ≤ (l.length : Int)) (ho : o.op = .slice t x (some y) (some z) none) (hx : ρ x = .raw (.string (bs l))) (hy : ρ y = .raw (.int .i64 i)) (hz : ρ z = .raw (.int .i64 j)) (hu : P.underlying t = some .string) :
 qop P ρ σ o = some (.raw (.string (bs (sub l i j)))) := by
 have hsz : (bs l).size = l.length := rfl
 have c1 : 0 ≤ j ∧ j ≤ ((bs l).size : Int) := by rw [hsz]; omega
 have c2 : 0 ≤ i ∧ i ≤ ((j.toNat : Nat) : Int) := by omega
 have c3 : 0 ≤ i ∧ i ≤ max j 0 := by omega
 have h3 : val? P (execOp (zax ρ) o) = some (.value (.string (bs (sub l i j)))) := by
  have he : sub l i j = (l.drop i.toNat).take (j.toNat - i.toNat) := rfl
  rw [he, ← zks]
  simp only [execOp, ho, zax, hx, hy, hz, zcf, Option.getD_some, Option.map_some, Instr.sliceAt, Instr.slice, Instr.sliceBounds, Instr.sliceBound, asIntOf, underlying]
  simp [program, Bind.bind, Pure.pure, Functor.map, Sem.bind, val?, hu, if_pos c1, if_pos c2, if_pos c3]
  try rfl
 have h1 : o.op.operands.toList.all (fun x => (zcf (ρ x)).isSome) = true := by rw [ho]; simp [Op.operands, hx, hy, hz, zcf]
 have h4 := zqo h1 (by rw [ho]; intros; simp) h3 rfl
 simp only [qop, ho, hx, hy, hz, h4, Option.map_some, zgn, hu]
 try rfl
theorem zmq {t : TypeId} {x y : Operand} {l : List UInt8} {i : Int} (g : 0 ≤ i ∧ i ≤ (l.length : Int) ∧ (l.length : Int) ≤ (l.length : Int)) (ho : o.op = .slice t x (some y) none none) (hx : ρ x = .raw (.string (bs l))) (hy : ρ y = .raw (.int .i64 i)) (hu : P.underlying t = some .string) :
 qop P ρ σ o = some (.raw (.string (bs (sub l i l.length)))) := by
 have hsz : (bs l).size = l.length := rfl
 have c2 : 0 ≤ i ∧ i ≤ ((bs l).size : Int) := by rw [hsz]; omega
 have h3 : val? P (execOp (zax ρ) o) = some (.value (.string (bs (sub l i l.length)))) := by
  have he : sub l i l.length = (l.drop i.toNat).take (l.length - i.toNat) := rfl
  rw [he, ← zks]
  simp only [execOp, ho, zax, hx, hy, zcf, Option.getD_some, Option.map_some, Option.map_none, Instr.sliceAt, Instr.slice, Instr.sliceBounds, Instr.sliceBound, asIntOf, underlying]
  simp [program, Bind.bind, Pure.pure, Functor.map, Sem.bind, val?, hu, if_pos c2]
  try rfl
 have h1 : o.op.operands.toList.all (fun x => (zcf (ρ x)).isSome) = true := by rw [ho]; simp [Op.operands, hx, hy, zcf]
 have h4 := zqo h1 (by rw [ho]; intros; simp) h3 rfl
 simp only [qop, ho, hx, hy, h4, Option.map_some, Option.map_none, zgn, hu]
 try rfl
theorem znr {t : TypeId} {x z : Operand} {l : List UInt8} {j : Int} (g : 0 ≤ 0 ∧ 0 ≤ j ∧ j ≤ (l.length : Int)) (ho : o.op = .slice t x none (some z) none) (hx : ρ x = .raw (.string (bs l))) (hz : ρ z = .raw (.int .i64 j)) (hu : P.underlying t = some .string) :
 qop P ρ σ o = some (.raw (.string (bs (sub l 0 j)))) := by
 have hsz : (bs l).size = l.length := rfl
 have c1 : 0 ≤ j ∧ j ≤ ((bs l).size : Int) := by rw [hsz]; omega
 have h3 : val? P (execOp (zax ρ) o) = some (.value (.string (bs (sub l 0 j)))) := by
  have he : sub l 0 j = (l.drop 0).take (j.toNat - 0) := rfl
  rw [he, ← zks]
  simp only [execOp, ho, zax, hx, hz, zcf, Option.getD_some, Option.map_some, Option.map_none, Instr.sliceAt, Instr.slice, Instr.sliceBounds, Instr.sliceBound, asIntOf, underlying]
  simp [program, Bind.bind, Pure.pure, Functor.map, Sem.bind, val?, hu, if_pos c1]
  try rfl
 have h1 : o.op.operands.toList.all (fun x => (zcf (ρ x)).isSome) = true := by rw [ho]; simp [Op.operands, hx, hz, zcf]
 have h4 := zqo h1 (by rw [ho]; intros; simp) h3 rfl
 simp only [qop, ho, hx, hz, h4, Option.map_some, Option.map_none, zgn, hu]
 try rfl
end
end Go.Ab
