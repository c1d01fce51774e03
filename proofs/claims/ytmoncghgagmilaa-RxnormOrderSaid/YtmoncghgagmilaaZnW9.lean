/-
  slices.CompactFunc of nodes by Same.
-/
import Derived.Test.YtmoncghgagmilaaZnV5
import Derived.Test.YtmoncghgagmilaaZnV3
import Derived.Test.YtmoncghgagmilaaZdCq
import Derived.Test.YtmoncghgagmilaaZdQr
import Derived.Test.YtmoncghgagmilaaZnW8
set_option linter.unusedSimpArgs false
set_option linter.unusedVariables false
namespace Go.Ab
open Go Go.RowKit Go.Fwd Go.Proofs
def zxn (b n sz : Nat) : AV := match n with | 0 => .list 0 [] .full | n + 1 => .bsl b 0 (n + 1) sz false
section
variable {α : Type}
theorem zek {e : List α} (h : e.isEmpty = true) (b sz : Nat) : zxn b e.length sz = .list 0 [] .full := by rw [List.isEmpty_iff.1 h]; rfl
theorem ze1 {e : List α} (h : e.isEmpty = false) (b sz : Nat) : zxn b e.length sz = .bsl b 0 e.length sz false := by
 cases e with
 | nil => cases h
 | cons x l => rfl
theorem zed {l : List α} {n : Nat} (h : l.length = n) (hp : 0 < n) (b sz : Nat) : AV.bsl b 0 n sz false = zxn b l.length sz := by
 subst h
 cases l with
 | nil => exact absurd hp (Nat.lt_irrefl _)
 | cons x l => rfl
theorem zmf {k b n sz : Nat} (h : b < k) : za5 k (zxn b n sz) = true := by
 cases n with
 | zero => rfl
 | succ n => simp [zxn, za5, h]
theorem zep {e : List α} (h : e.isEmpty = false) : 0 < e.length := by
 cases e with
 | nil => cases h
 | cons x l => simp
end
section
variable {α : Type} [Enc α] {P : Program} {ρ : Operand → AV} {σ : St} {o : Oper}
theorem zjf {c : Call} {x y : Operand} {t e : TypeId} {i : TypeInfo} {z : Value} {by' : Nat} {r : List α} {st : Room} (hn : 0 < r.length ∧ r.length * by' ≤ 140737488355328) (ho : o.op = .call c) (hc : c.callee = .builtin .append) (ha : c.args.toList = [x, y]) (ht : c.argTypes.toList = [t, t])
 (hx : ρ x = .list 0 [] .full) (hy : ρ y = .list r.length (Enc.cellsL r) st) (hu : P.underlying t = some (.slice e)) (hi : P.info? e = some i) (hz : i.zero = some z) (hsz : i.size = Enc.sz α) (hzs : z.cells.size = Enc.sz α) (hby : i.bytes = by' ∧ 0 < by') :
 zp0 P ρ σ o = some (.bsl σ.boxes.length 0 r.length (Enc.sz α) false, { σ with boxes := σ.boxes ++ [(e, Enc.cellsL r)] }) := by
 obtain ⟨h1, h2⟩ := hn
 have hp := Enc.pos (α := α)
 have hsrc : z07 P σ (Enc.sz α) t t (ρ y) = some (r.length, Enc.cellsL r) := by rw [hy]; exact zhu ⟨rfl, by rw [Enc.lenL], by omega⟩
 have hmax : r.length ≤ maxLen := by
  unfold maxLen
  have : r.length * 1 ≤ r.length * by' := Nat.mul_le_mul_left _ hby.2
  omega
 have h := zy3 (P := P) (σ := σ) ho hc ha ht hx hu hi hz hsz hsrc ⟨hp, hzs, h1⟩ ⟨by simp, by rw [Nat.zero_add]; exact hmax, by rw [Nat.zero_add, hby.1]; exact h2⟩
 rw [h, Nat.zero_add, List.nil_append]
theorem zyh {c : Call} {x y : Operand} {t e : TypeId} {i : TypeInfo} {z : Value} {s n by' : Nat} {l r : List α} {st : Room} (hn : n ≤ l.length ∧ 0 < r.length ∧ (n + r.length) * by' ≤ 140737488355328) (ho : o.op = .call c) (hc : c.callee = .builtin .append) (ha : c.args.toList = [x, y]) (ht : c.argTypes.toList = [t, t])
 (hx : ρ x = .bsl s 0 n (Enc.sz α) true) (hy : ρ y = .list r.length (Enc.cellsL r) st) (hb : σ.boxes[s]? = some (e, Enc.cellsL l)) (hu : P.underlying t = some (.slice e)) (hi : P.info? e = some i) (hz : i.zero = some z) (hsz : i.size = Enc.sz α) (hzs : z.cells.size = Enc.sz α) (hby : i.bytes = by' ∧ 0 < by') :
 zp0 P ρ σ o = some (.bsl σ.boxes.length 0 (n + r.length) (Enc.sz α) false, { σ with boxes := σ.boxes ++ [(e, Enc.cellsL (l.take n ++ r))] }) := by
 obtain ⟨h1, h3, h4⟩ := hn
 have hp := Enc.pos (α := α)
 have hsrc : z07 P σ i.size t t (ρ y) = some (r.length, Enc.cellsL r) := by rw [hy]; exact zhu ⟨rfl, by rw [Enc.lenL, hsz], by omega⟩
 have hmax : n + r.length ≤ maxLen := by
  unfold maxLen
  have : (n + r.length) * 1 ≤ (n + r.length) * by' := Nat.mul_le_mul_left _ hby.2
  omega
 have hle : 0 + n * Enc.sz α ≤ (Enc.cellsL l).length := by rw [Enc.lenL, Nat.zero_add]; exact Nat.mul_le_mul_right _ h1
 have hnn : zlo (.bsl s 0 n (Enc.sz α) true) = false := rfl
 have c1 : 0 < i.size ∧ z.cells.size = i.size ∧ 0 < r.length := ⟨by omega, by omega, h3⟩
 have c2 : Enc.sz α = i.size ∧ n + r.length ≤ maxLen ∧ (n + r.length) * i.bytes ≤ 140737488355328 ∧ 0 + n * Enc.sz α ≤ (Enc.cellsL l).length := ⟨hsz.symm, hmax, by rw [hby.1]; exact h4, hle⟩
 simp only [zp0, ho, hc, ha, ht, hx, hnn, Bool.false_eq_true, if_false, zl0, hu, hi, hz, hsrc, hb, if_pos c1, if_pos c2, if_true, List.drop_zero]
 rw [Enc.app, Enc.take]
theorem z75 {t e : TypeId} {x h1 h2 : Operand} {s n : Nat} {f : Bool} {k k' : IntKind} {j : Int} (g : 0 < j ∧ j ≤ n) (ho : o.op = .slice t x none (some h1) (some h2)) (hx : ρ x = .bsl s 0 n (Enc.sz α) f) (hi : ρ h1 = .raw (.int k j)) (hi2 : ρ h2 = .raw (.int k' j)) (hu : P.underlying t = some (.slice e)) (hs : zec P e = some (Enc.sz α)) :
 qop P ρ σ o = some (.bsl s 0 j.toNat (Enc.sz α) true) := by
 have h4 : zdx n none (some (.raw (.int k j))) (some (.raw (.int k' j))) = some (0, j.toNat, true) := by
  have c : 0 ≤ j ∧ j ≤ (n : Int) := by omega
  have c2 : 0 ≤ j ∧ j ≤ ((j.toNat : Nat) : Int) := by omega
  have c3 : (0 ≤ j ∧ j ≤ max j 0) := by omega
  simp only [zdx, zgj, if_pos c]
  first | rw [if_pos c] | skip
  simp [if_pos c3]
 have hlt : 0 < j.toNat := by omega
 simp only [qop, ho, hx, hi, hi2, Option.map_some, Option.map_none, zig, hu, hs, h4, if_true, if_pos hlt, Nat.zero_add, Nat.zero_mul, Nat.sub_zero]
 simp
theorem z2i {t e : TypeId} {x h1 h2 : Operand} {s n : Nat} {f : Bool} {k k' : IntKind} {j : Int} (g : j = 0) (ho : o.op = .slice t x none (some h1) (some h2)) (hx : ρ x = .bsl s 0 n (Enc.sz α) f) (hi : ρ h1 = .raw (.int k j)) (hi2 : ρ h2 = .raw (.int k' j)) (hu : P.underlying t = some (.slice e)) (hs : zec P e = some (Enc.sz α)) :
 qop P ρ σ o = some (.list 0 [] .full) := by
 subst g
 have h4 : zdx n none (some (.raw (.int k 0))) (some (.raw (.int k' 0))) = some (0, 0, true) := by
  have c : 0 ≤ (0 : Int) ∧ (0 : Int) ≤ (n : Int) := by omega
  simp only [zdx, zgj, if_pos c]
  first | rw [if_pos c] | skip
  simp
 simp only [qop, ho, hx, hi, hi2, Option.map_some, Option.map_none, zig, hu, hs, h4, if_true, Nat.lt_irrefl, if_false]
 simp
theorem q_bslLz {t e : TypeId} {x i : Operand} {s n : Nat} {k : IntKind} {j : Int} (g : 0 ≤ j ∧ j = n) (ho : o.op = .slice t x (some i) none none) (hx : ρ x = .bsl s 0 n (Enc.sz α) false) (hi : ρ i = .raw (.int k j)) (hu : P.underlying t = some (.slice e)) (hs : zec P e = some (Enc.sz α)) :
 qop P ρ σ o = some (.list 0 [] .none) := by
 have h4 : zdx n (some (.raw (.int k j))) none none = some (j.toNat, n, false) := by
  have c : 0 ≤ j ∧ j ≤ (n : Int) := by omega
  simp only [zdx, zgj, if_pos c]
 have hlt : ¬ j.toNat < n := by omega
 simp only [qop, ho, hx, hi, Option.map_some, Option.map_none, zig, hu, hs, h4, if_true, if_neg hlt]
 simp
theorem zse {t e : TypeId} {x i : Operand} {s n off : Nat} {f : Bool} {k : IntKind} {j : Int} (g : 0 ≤ j ∧ j < n) (ho : o.op = .indexAddr t x i) (hx : ρ x = .bsl s (off * Enc.sz α) n (Enc.sz α) f) (hi : ρ i = .raw (.int k j)) (hu : P.underlying t = some (.slice e)) (hs : zec P e = some (Enc.sz α)) :
 qop P ρ σ o = some (.ptr s (0 + ((off : Int) + j).toNat * Enc.sz α)) := by
 rw [zyr ho hx hi hu hs g]
 congr 2
 rw [show ((off : Int) + j).toNat = off + j.toNat by omega, Nat.add_mul, Nat.zero_add]
end
section
variable {P : Program} {ρ : Operand → AV} {σ : St} {o : Oper}
theorem q_max3 {c : Call} {x y z : Operand} {k k' k'' : IntKind} {m n r : Int} (ho : o.op = .call c) (hc : c.callee = .builtin .max) (ha : c.args = #[x, y, z]) (hx : ρ x = .raw (.int k m)) (hy : ρ y = .raw (.int k' n)) (hz : ρ z = .raw (.int k'' r)) : qop P ρ σ o = some (.raw (.int k (max (max m n) r))) := by
 have e : (if n > m then n else m) = max m n := by split <;> omega
 have e2 : (if r > max m n then r else max m n) = max (max m n) r := by split <;> omega
 simp [qop, zg9, ho, hc, ha, Op.operands, Call.operands, hx, hy, hz, zg6, execOp, zcs, resolve, invoke, builtin, Builtin.max_, Builtin.max2, val?, znl, zjm, zg5, e, e2]
 simp [Pure.pure, Bind.bind, Sem.bind, val?, znl, zjm, zg5, e, e2]
end
end Go.Ab
set_option linter.unusedSimpArgs false
set_option linter.unusedVariables false
namespace Go.Ab
open Go Go.RowKit Go.Fwd Go.Proofs
section
variable {IT : IterP} {P : Program} {W : Owed} {k0 : Nat}
theorem w_opR {ops : Array Oper} {Q : List AV → St → Prop} {o : Oper} {l : List Oper} {S S' : List AV} {σ σ' : St} {a : AV} (hg : o.guard = none) (hc : zc3 S o = none) (hy : zdi S o = none) (h : AopR P (zcp S) σ o a σ') (hS : zn S o.dst a = S') (k : zb6 IT P W ops Q l S' σ') : zb6 IT P W ops Q (o :: l) S σ := by
 simp only [zb6, hg, zfa, hc, hy]
 exact .inl ⟨a, σ', h, by rw [hS]; exact k⟩
end
theorem Wk.tr {n : Nat} {S S1 S2 : List AV} {σ σ1 σ2 : St} (h : Wk n S σ S1 σ1) (k : Wk n S1 σ1 S2 σ2) : Wk n S σ S2 σ2 := by
 induction h with
 | one h => exact .step h k
 | step h _ ih => exact .step h (ih k)
theorem snd_box {IT : IterP} (hIT : ITMono IT) {P : Program} {f : FuncId} {ar ar' : List AV} {n m sz : Nat} {σ : St} {s : Nat} {t : TypeId} {cs cs' : List AV} {fl : Bool} (h : Snd IT P f (.bsl 0 0 n sz false :: ar') ⟨[(t, cs)], [], [], 0, false⟩ (.bsl 0 0 m sz false) ⟨[(t, cs')], [], [], 0, false⟩)
 (has : stripL ar = ar') (hok : z7 0 ar = true) (hcl0 : cloL cs = true) (hcl : cloL cs' = true) (hne : cs ≠ []) (hb : σ.boxes[s]? = some (t, cs)) : Snd IT P f (.bsl s 0 n sz fl :: ar) σ (.bsl s 0 m sz false) { σ with boxes := σ.boxes.set s (t, cs') } := by
 refine ⟨h.1, fun X vs hI hr => ?_⟩
 obtain ⟨v0, vr, rfl, hv0, hrr⟩ := hr
 obtain ⟨b, cap, cur, t1, hκ, rfl, hcap, _, hrow, hfit⟩ := (show Bsl X s 0 n sz fl v0 from hv0)
 have hbX := hI.κF s b t cs hκ hb hne
 have hsl : s < σ.boxes.length := (List.getElem?_eq_some_iff.1 hb).1
 obtain ⟨us0, zs0, u1, u2, u3⟩ := hI.box s b t cs hκ hb
 have hI0 : Inv IT ⟨[(t, cs)], [], [], 0, false⟩ ⟨X.F, [b], [], [], X.w, fun _ => False, fun _ _ => False⟩ := {
  lens := rfl, elems := rfl, κlen := rfl
  κnd := fun s1 s2 b1 h1 h2 h3 => by
   have e1 := (List.getElem?_eq_some_iff.1 h1).1
   have e2 := (List.getElem?_eq_some_iff.1 h2).1
   simp at e1 e2; omega
  box := fun s1 b1 t1 c1 h1 h2 => by
   have e1 := (List.getElem?_eq_some_iff.1 h1).1
   obtain rfl : s1 = 0 := by simp at e1; omega
   cases h1; cases h2
   have q := zcy (X := X) (Y := ⟨X.F, [b], [], [], X.w, fun _ => False, fun _ _ => False⟩) hIT rfl rfl _ _ (.inl (zo _ _ hcl0)) u2
   rw [zb9 _ hcl0] at q
   exact ⟨us0, zs0, u1, q, u3⟩
  κF := fun s1 b1 t1 c1 h1 h2 h3 o => by
   have e1 := (List.getElem?_eq_some_iff.1 h1).1
   obtain rfl : s1 = 0 := by simp at e1; omega
   cases h1
   exact hbX o
  βlen := rfl, βnd := List.nodup_nil
  βκ := fun r h => by simp at h
  row := fun s r L h => by simp at h
  Ok := fun b h => h.elim
  Fcell := hI.Fcell
  gv := hI.gv }
 have hr0 : za9 IT ⟨X.F, [b], [], [], X.w, fun _ => False, fun _ _ => False⟩ (.bsl 0 0 n sz false :: ar') (.slice (some ⟨b, 0, none⟩) n cap :: vr) :=
  ⟨_, _, rfl, ⟨b, cap, cur, t1, rfl, rfl, hcap, (fun h => by cases h), hrow, hfit⟩, has ▸ zcy (X := X) (Y := ⟨X.F, [b], [], [], X.w, fun _ => False, fun _ _ => False⟩) hIT rfl rfl ar vr (.inl hok) hrr⟩
 refine (h.2 _ _ hI0 hr0).mono ?_
 rintro e w' ⟨v, Y, rfl, rfl, hE, hIY, hv⟩
 have hYκ : Y.κ[0]? = some b := hE.κ 0 b rfl
 have hblk : ∀ k, k < X.w.heap.size → k ≠ b → Y.w.heap[k]? = X.w.heap[k]? := fun k hk hn => hE.frame k hk (by simpa using hn) (by simp)
 have hFn : ∀ b' i, Y.F b' i → X.F b' i ∨ X.w.heap.size ≤ b' ∨ b' = b := fun b' i hf => by
  rcases hE.Fnew b' i hf with h | h | ⟨q, hq, _⟩ | h
  ·exact .inl h
  ·exact .inr (.inl h)
  ·simp at hq
  ·exact .inr (.inr (by simpa using h))
 obtain ⟨us, zs, q1, q2, q3⟩ := hIY.box 0 b t cs' hYκ rfl
 have hX : Ext X ⟨Y.F, X.κ, X.β, X.lens, Y.w, X.O, X.C⟩ := {
  os := hE.os, tape := hE.tape, output := hE.output, size := hE.size, drawn := hE.drawn, F := hE.F, cell := hE.cell
  κ := fun _ _ h => h
  lens := fun s L h => ⟨L, h, Nat.le_refl _, fun _ => rfl⟩
  blk := fun s' b' hs cur' t' f' hc => by
   by_cases e : b' = b
   ·subst e; exact hE.blk 0 b' rfl cur' t' f' hc
   ·exact ⟨cur', (hblk b' (hI.κlt (List.mem_of_getElem? hs)) e).trans hc, rfl⟩
  szs := hE.szs
  frame := fun b' hb' hk _ => hblk b' hb' fun e => hk (e ▸ List.mem_of_getElem? hκ)
  κnew := fun _ h => .inl h
  βnew := fun r h => .inl ⟨r, h, rfl⟩
  O := rfl
  C := rfl
  Fnew := fun b' i hf => by
   rcases hFn b' i hf with h | h | h
   ·exact .inl h
   ·exact .inr (.inl h)
   ·exact .inr (.inr (.inr (h ▸ List.mem_of_getElem? hκ))) }
 have hdead : ∀ s' t' c', X.κ[s']? = some b → s' ≠ s → σ.boxes[s']? = some (t', c') → c' = [] := fun s' t' c' h1 h2 h3 => by
  rcases hI.κnd s' s b h1 hκ h2 with ⟨t2, h4⟩ | ⟨t2, h4⟩
  ·rw [h3] at h4; cases h4; rfl
  ·rw [hb] at h4; cases h4; exact absurd rfl hne
 refine ⟨v, ⟨Y.F, X.κ, X.β, X.lens, Y.w, X.O, X.C⟩, rfl, rfl, hX, { lens := hI.lens, elems := hI.elems, κlen := by simpa using hI.κlen, κnd := ?_, box := ?_, κF := ?_, βlen := hI.βlen, βnd := hI.βnd, βκ := hI.βκ, row := ?_, Ok := ?_, Fcell := hIY.Fcell, gv := hIY.gv }, ?_⟩
 ·intro s1 s2 b1 h1 h2 h3
  simp only
  rcases hI.κnd s1 s2 b1 h1 h2 h3 with ⟨t2, h4⟩ | ⟨t2, h4⟩
  ·have : s ≠ s1 := fun e => by subst e; rw [hb] at h4; cases h4; exact hne rfl
   exact .inl ⟨t2, by rw [List.getElem?_set_ne this]; exact h4⟩
  ·have : s ≠ s2 := fun e => by subst e; rw [hb] at h4; cases h4; exact hne rfl
   exact .inr ⟨t2, by rw [List.getElem?_set_ne this]; exact h4⟩
 ·intro s' b' t' c' hs hb'
  simp only at hs hb'
  by_cases e : s' = s
  ·subst e
   rw [List.getElem?_set_self hsl] at hb'
   cases hb'
   rw [hκ] at hs; cases hs
   refine ⟨us, zs, q1, ?_, q3⟩
   have q := zcy (X := Y) (Y := ⟨Y.F, X.κ, X.β, X.lens, Y.w, X.O, X.C⟩) hIT rfl rfl _ _ (.inl (zo _ _ hcl)) q2
   rwa [zb9 _ hcl] at q
  ·rw [List.getElem?_set_ne (Ne.symm e)] at hb'
   obtain ⟨us1, zs1, v1, v2, v3⟩ := hI.box s' b' t' c' hs hb'
   by_cases e2 : b' = b
   ·subst e2
    obtain rfl := hdead s' t' c' hs e hb'
    rw [u1] at v1
    injection v1 with v1
    injection v1 with _ v1
    subst v1
    exact ⟨[], us ++ zs, q1, rfl, fun v hv => by cases hv⟩
   ·exact ⟨us1, zs1, (hblk b' (hI.κlt (List.mem_of_getElem? hs)) e2).trans v1, zao hIT hX _ _ v2, v3⟩
 ·intro s' b' t' c' hs hb' hne' o hf
  simp only at hs hb' hf
  by_cases e : s' = s
  ·subst e
   rw [List.getElem?_set_self hsl] at hb'
   cases hb'
   rw [hκ] at hs; cases hs
   exact hIY.κF 0 b t cs' hYκ rfl hne' o hf
  ·rw [List.getElem?_set_ne (Ne.symm e)] at hb'
   rcases hFn b' o hf with h | h | h
   ·exact hI.κF s' b' t' c' hs hb' hne' o h
   ·have := hI.κlt (List.mem_of_getElem? hs); omega
   ·subst h; exact hne' (hdead s' t' c' hs e hb')
 ·intro s' q L hq hL
  obtain ⟨cur', fz, c1, c2, c3, c4, c5, c6, c7⟩ := hI.row s' q L hq hL
  have hlt := hI.βlt (List.mem_of_getElem? hq)
  have hnb : q.block ≠ b := fun e => hI.βκ q (List.mem_of_getElem? hq) (e ▸ List.mem_of_getElem? hκ)
  refine ⟨cur', fz, (hblk _ hlt hnb).trans c1, c2, c3, c4, c5, fun o hf => ?_, c7⟩
  rcases hFn _ o hf with h | h | h
  ·exact c6 o h
  ·omega
  ·exact absurd h hnb
 ·intro b' ho
  obtain ⟨⟨cs0, t0, f0, h0⟩, h2, h3, h4⟩ := hI.Ok b' ho
  have hlt := hI.Olt ho
  have hnb : b' ≠ b := fun e => h2 (e ▸ List.mem_of_getElem? hκ)
  refine ⟨⟨cs0, t0, f0, (hblk b' hlt hnb).trans h0⟩, h2, h3, fun o hf => ?_⟩
  rcases hFn b' o hf with h | h | h
  ·exact h4 o h
  ·omega
  ·exact absurd h hnb
 ·obtain ⟨b1, cap1, cur1, t2, k1, rfl, k3, k4, k5, k6⟩ := (show Bsl Y 0 0 m sz false v from hv)
  rw [hYκ] at k1; cases k1
  exact ⟨b, cap1, cur1, t2, hκ, rfl, k3, k4, k5, k6⟩
section
variable {α : Type} [Enc α] {P : Program} {ρ : Operand → AV} {σ : St} {o : Oper}
theorem z3w {c : Call} {x : Operand} {t e t0 : TypeId} {i : TypeInfo} {z : Value} {s k n : Nat} {f : Bool} {l : List α} (hn : k ≤ l.length ∧ 0 < l.length ∧ 0 < n) (ho : o.op = .call c) (hc : c.callee = .builtin .clear) (ha : c.args.toList = [x]) (ht : c.argTypes.toList = [t])
 (hx : ρ x = .bsl s (k * Enc.sz α) n (Enc.sz α) f) (hb : σ.boxes[s]? = some (t0, Enc.cellsL l)) (hu : P.underlying t = some (.slice e)) (hi : P.info? e = some i) (hz : i.zero = some z) (hsz : i.size = Enc.sz α) (hzs : z.cells.size = Enc.sz α) (h1 : z.cells.toList.all (·.oneCell') = true) :
 zp0 P ρ σ o = some (.tup [], { σ with boxes := σ.boxes.set s (t0, Enc.cellsL (l.take k)) }) := by
 obtain ⟨h2, h3, h4⟩ := hn
 have hl : k * Enc.sz α ≤ (Enc.cellsL l).length := by rw [Enc.lenL]; exact Nat.mul_le_mul_right _ h2
 have he : (Enc.cellsL l).isEmpty = false := by
  cases hE : Enc.cellsL l with
  | nil =>
   have := Enc.lenL l
   rw [hE] at this
   have h5 := Nat.mul_pos h3 (Enc.pos (α := α))
   simp at this; omega
  | cons _ _ => rfl
 simp only [zp0, ho, hc, ha, ht, hx, zt4, hu, hi, hb, hz]
 rw [if_pos ⟨hsz, hzs, he, hl, h4, h1⟩, Enc.take]
theorem zw2 {fn : Func} {S : List AV} {R r : List α} {t : TypeId} {n sz : Nat} (h : some R = some r) (ha : zbl P fn σ S = some (.bsl 0 0 n sz false)) (hok : ztk 1 σ = true) (hσ : zei 1 σ = ⟨[(t, Enc.cellsL R)], [], [], 0, false⟩) (hn : R.length = n) :
 aendS P fn 1 0 (.bsl 0 0 r.length sz false) ⟨[(t, Enc.cellsL r)], [], [], 0, false⟩ .ret S σ := by
 cases h
 subst hn
 exact ⟨_, ha, zuw rfl hok rfl hσ⟩
end
end Go.Ab
set_option linter.unusedSimpArgs false
set_option linter.unusedVariables false
set_option maxRecDepth 100000
set_option maxHeartbeats 4000000
namespace Go.Ab
open Go Go.RowKit Go.Fwd Go.Proofs
def zye (fuel : Nat) (l : List Tr) : Option (List Tr) :=
 (bif (decide ((((List.length l) : Nat) : Int) < 2)) then (some l) else (zdo (τ := Unit) (zch (β := Int) (fun s1 => (bif (decide (s1 < (((List.length l) : Nat) : Int))) then (zdo (τ := Unit) (chk (0 ≤ s1 ∧ s1 < (((List.length l) : Nat) : Int)) (chk (0 ≤ s1 ∧ s1 < (List.length l : Int)) (zan (ix l s1) (fun x1 => (chk (-9223372036854775808 ≤ (s1 - 1) ∧ (s1 - 1) < 9223372036854775808) (chk (0 ≤ (s1 - 1) ∧ (s1 - 1) < (((List.length l) : Nat) : Int)) (chk (0 ≤ (s1 - 1) ∧ (s1 - 1) < (List.length l : Int)) (zan (ix l (s1 - 1)) (fun x2 => (chk ((pre x1).length < 2 ^ 61 ∧ (pre x2).length < 2 ^ 61) (zan (zfc x1 x2) (fun x3 => (bif x3 then (chk (0 ≤ s1 ∧ s1 < (((List.length l) : Nat) : Int)) (zdo (τ := Int × (List Tr)) (zch (β := Int × Int × (List Tr)) (fun s2 => (bif (decide (s2.2.1 < ((((List.length l) - Int.toNat s1) : Nat) : Int))) then (zdo (τ := Int × (List Tr)) (chk (0 ≤ s2.2.1 ∧ s2.2.1 < ((((List.length l) - Int.toNat s1) : Nat) : Int)) (chk (0 ≤ (((Int.toNat s1 : Nat) : Int) + s2.2.1) ∧ (((Int.toNat s1 : Nat) : Int) + s2.2.1) < (List.length s2.2.2 : Int)) (zan (ix s2.2.2 (((Int.toNat s1 : Nat) : Int) + s2.2.1)) (fun x4 => (chk (-9223372036854775808 ≤ (s2.2.1 - 1) ∧ (s2.2.1 - 1) < 9223372036854775808) (chk (0 ≤ (s2.2.1 - 1) ∧ (s2.2.1 - 1) < ((((List.length l) - Int.toNat s1) : Nat) : Int)) (chk (0 ≤ (((Int.toNat s1 : Nat) : Int) + (s2.2.1 - 1)) ∧ (((Int.toNat s1 : Nat) : Int) + (s2.2.1 - 1)) < (List.length s2.2.2 : Int)) (zan (ix s2.2.2 (((Int.toNat s1 : Nat) : Int) + (s2.2.1 - 1))) (fun x5 => (chk ((pre x4).length < 2 ^ 61 ∧ (pre x5).length < 2 ^ 61) (zan (zfc x4 x5) (fun x6 => (bif (!x6) then (chk (0 ≤ s2.2.1 ∧ s2.2.1 < ((((List.length l) - Int.toNat s1) : Nat) : Int)) (chk (0 ≤ (((Int.toNat s1 : Nat) : Int) + s2.2.1) ∧ (((Int.toNat s1 : Nat) : Int) + s2.2.1) < (List.length s2.2.2 : Int)) (zan (ix s2.2.2 (((Int.toNat s1 : Nat) : Int) + s2.2.1)) (fun x7 => (chk (0 ≤ s2.1 ∧ s2.1 < (((List.length l) : Nat) : Int)) (chk (0 ≤ s2.1 ∧ s2.1 < (List.length s2.2.2 : Int)) (zan (ix s2.2.2 s2.1) (fun x8 => (chk (-9223372036854775808 ≤ (s2.1 + 1) ∧ (s2.1 + 1) < 9223372036854775808) (some (Sum.inl ((s2.1 + 1), (List.set s2.2.2 (Int.toNat s2.1) x7))))))))))))) else (some (Sum.inl (s2.1, s2.2.2)))))))))))))))) (fun j4 => (chk (-9223372036854775808 ≤ (s2.2.1 + 1) ∧ (s2.2.1 + 1) < 9223372036854775808) (some (Sum.inl (j4.1, (s2.2.1 + 1), j4.2)))))) else (some (Sum.inr (Sum.inl (s2.1, s2.2.2)))))) fuel (s1, 1, l)) (fun j3 => (chk (0 ≤ j3.1 ∧ j3.1 < (((List.length l) : Nat) : Int)) (chk (Int.toNat j3.1 ≤ List.length j3.2 ∧ 0 < List.length j3.2 ∧ 0 < ((List.length l) - Int.toNat j3.1)) (chk ((0 < j3.1 ∧ j3.1 ≤ (((List.length l) : Nat) : Int)) ∧ List.length (List.take (Int.toNat j3.1) j3.2) = Int.toNat j3.1) (some (Sum.inr (Sum.inr (Sum.inr (List.take (Int.toNat j3.1) j3.2))))))))))) else (some (Sum.inl ()))))))))))))))) (fun j2 => (chk (-9223372036854775808 ≤ (s1 + 1) ∧ (s1 + 1) < 9223372036854775808) (some (Sum.inl ((s1 + 1))))))) else (some (Sum.inr (Sum.inl ()))))) fuel (1)) (fun j1 => (some l))))
theorem ent63 : Ent Try.prog 63 := enters_of Try.func63 (by kernel_rfl) rfl
set_option maxRecDepth 100000 in
set_option maxHeartbeats 4000000 in
theorem comp_s0 (fuel : Nat) (l : List Tr) (r : List Tr) (h : zye fuel l = some r) : Snd (ITP Try.prog) Try.prog 63 [.bsl 0 0 (List.length l) 8 false, .clos 11 []] ⟨[(30, Enc.cellsL l)], [], [], 0, false⟩ (.bsl 0 0 r.length 8 false) ⟨[(30, Enc.cellsL r)], [], [], 0, false⟩ := by
 obtain ⟨d, hd⟩ : ∃ d, Try.f63.body = some d := ⟨_, rfl⟩
 refine zy9 mix Try.func63 hd ent63 ?_
 cases hd
 unfold zye at h
 refine zam (by dsimp only [zbq, Try.f63, List.length_cons, List.length_nil, Nat.zero_add, Nat.reduceAdd, Nat.reduceSub, List.replicate, List.cons_append, List.nil_append]) rfl ?_
 refine ze (zc ?_)
 refine w_o (a := .list 0 [] .full) ?_
 refine ze ?_
 refine ze (zc ?_)
 refine zab ?_
 refine w_o (a := .raw (.int .i64 (((List.length l) : Nat) : Int))) ?_
 refine w_o (a := .raw (.bool (decide ((((List.length l) : Nat) : Int) < 2)))) ?_
 refine zu h (fun hc1 h => ?_) (fun hc1 h => ?_)
 ·
  refine zaq hc1 rfl ?_
  refine ze (zc ?_)
  refine zab ?_
  refine zab ?_
  exact zw2 (R := l) h rfl (zba (zv (zo _ _ (Enc.cloL _)) rfl)) rfl rfl
 ·
  refine zat hc1 rfl ?_
  refine za0 h [1, 2, 3, 4, 5, 6, 7, 8, 9, 10, 11, 12, 13, 14, 15, 16, 17, 18, 19, 20, 21, 22, 23, 24, 25, 26, 27, 28, 29, 30, 31, 32, 33, 34, 35, 36, 37, 38, 39, 40, 41, 42, 43, 44, 45, 46, 47, 48, 49, 50, 51, 52, 53, 54, 55, 56, 57, 58, 59, 60, 61, 62, 63, 64, 65] (fun j1 => []) (fun j1 => ⟨[(30, (Enc.cellsL (l : List Tr)))], [], [], 0, false⟩) ?_ ?_
  ·
   intro or1 h hr1
   refine ze (zc ?_)
   refine w_o (a := .raw (.int .i64 1)) ?_
   refine zr ?_
   refine zcf h [2, 3, 4, 5, 6, 7, 8, 9, 10, 11, 12, 13, 14, 15, 16, 17, 18, 19, 20, 21, 22, 23, 24, 25, 26, 27, 28, 29, 30, 31, 32, 33, 34, 35, 36, 37, 38, 39, 40, 41, 42, 43, 44, 45, 46, 47, 48, 49, 50, 51, 52, 53, 54, 55, 56, 57, 58, 59, 60, 61, 62, 63, 64, 65] (fun s1 => [(5, .raw (.int .i64 s1))]) (fun s1 => ⟨[(30, (Enc.cellsL (l : List Tr)))], [], [], 0, false⟩) ?_ ?_
   ·
    exact zco (bl 66 35) (by kernel_rfl) (by kernel_rfl)
   ·
    intro s1 p1 h
    refine zam (by dsimp only [zz, zad, List.foldl, List.set]) rfl ?_
    refine ze ?_
    refine ze (zc ?_)
    refine zab ?_
    refine zab ?_
    refine w_o (a := .raw (.int .i64 (((List.length l) : Nat) : Int))) ?_
    refine w_o (a := .raw (.bool (decide (s1 < (((List.length l) : Nat) : Int))))) ?_
    refine zu h (fun hc2 h => ?_) (fun hc2 h => ?_)
    ·
     refine zaq hc2 rfl ?_
     refine za0 h [4, 5, 6, 7, 12, 13, 14, 15, 18, 19, 20, 21, 22, 23, 24, 25, 26, 27, 28, 29, 30, 31, 32, 33, 34, 35, 36, 37, 38, 39, 40, 41, 42, 43, 44, 45, 46, 47, 48, 49, 50, 51, 52, 53, 54, 55, 56, 57, 58, 59, 60, 61, 62, 63, 64] (fun j2 => [(5, .raw (.int .i64 s1))]) (fun j2 => ⟨[(30, (Enc.cellsL (l : List Tr)))], [], [], 0, false⟩) ?_ ?_
     ·
      intro or2 h hr2
      refine zr ?_
      refine ze ?_
      refine zcw (k0 := 0) (id := 6) 10 (by kernel_rfl) (by kernel_rfl) ?_
      refine zgc ?_
      refine zgc ?_
      refine zgc ?_
      obtain ⟨g1, h⟩ := zh h
      refine h_o (a := .ptr 0 (0 + Int.toNat s1 * 8)) (h := zd9 (α := Tr) g1 rfl rfl rfl rfl rfl) ?_
      obtain ⟨g2, h⟩ := zh h
      obtain ⟨x1, hx1, h⟩ := zj h
      refine h_o (a := .agg (Enc.cells (x1 : Tr))) (h := by rw [← hx1]; exact (zc6 (α := Tr) (l := l) (i := s1) (k := 0) (te := 30) g2 rfl rfl rfl rfl)) ?_
      refine zgc ?_
      refine zgc ?_
      obtain ⟨g3, h⟩ := zh h
      refine h_o (a := .raw (.int .i64 (s1 - 1))) (h := zfv rfl rfl rfl rfl g3.1 g3.2) ?_
      obtain ⟨g4, h⟩ := zh h
      refine h_o (a := .ptr 0 (0 + Int.toNat (s1 - 1) * 8)) (h := zd9 (α := Tr) g4 rfl rfl rfl rfl rfl) ?_
      obtain ⟨g5, h⟩ := zh h
      obtain ⟨x2, hx2, h⟩ := zj h
      refine h_o (a := .agg (Enc.cells (x2 : Tr))) (h := by rw [← hx2]; exact (zc6 (α := Tr) (l := l) (i := (s1 - 1)) (k := 0) (te := 30) g5 rfl rfl rfl rfl)) ?_
      refine zdr ?_
      obtain ⟨g6, h⟩ := zh h
      obtain ⟨x3, hx3, h⟩ := zj h
      refine za1 (args' := [.agg (Enc.cells (x1 : Tr)), .agg (Enc.cells (x2 : Tr))]) (r := .raw (.bool x3)) (by rw [← hx3]; exact (zmo x1 x2 g6)) rfl rfl (zf (zaf (zl (Enc.clo _))) (zf (zaf (zl (Enc.clo _))) rfl)) (zb (zm _ _ (zl (Enc.clo _))) (zb (zm _ _ (zl (Enc.clo _))) rfl)) (by dsimp only [zn, List.set]) ?_
      refine zu h (fun hc3 h => ?_) (fun hc3 h => ?_)
      ·
       refine zaq hc3 rfl ?_
       refine ze (zc ?_)
       refine zab ?_
       refine zab ?_
       obtain ⟨g7, h⟩ := zh h
       refine w_o (a := .bsl 0 (Int.toNat s1 * 8) ((List.length l) - Int.toNat s1) 8 false) (h := za2 (z3l (α := Tr) g7 rfl rfl rfl rfl rfl)) ?_
       refine zab ?_
       refine za0 h [1, 5, 6, 7, 12, 13, 14, 15, 18, 19, 20, 21, 22, 23, 24, 25, 26, 27, 28, 29, 30, 31, 32, 33, 34, 35, 36, 37, 38, 39, 40, 41, 42, 43, 44, 45, 46, 47, 48, 49, 50, 51, 52, 53, 54, 55, 56, 57, 58] (fun j3 => [(5, .raw (.int .i64 j3.1))]) (fun j3 => ⟨[(30, (Enc.cellsL (j3.2 : List Tr)))], [], [], 0, false⟩) ?_ ?_
       ·
        intro or3 h hr3
        refine ze (zc ?_)
        refine w_o (a := .raw (.int .i64 1)) ?_
        refine zr ?_
        refine zcf h [5, 7, 12, 13, 14, 15, 18, 19, 20, 21, 22, 23, 24, 25, 26, 27, 28, 29, 30, 31, 32, 33, 34, 35, 36, 37, 38, 39, 40, 41, 42, 43, 44, 45, 46, 47, 48, 49, 50, 51, 52, 53, 54, 55, 56, 57, 58] (fun s2 => [(5, .raw (.int .i64 s2.1)), (7, .raw (.int .i64 s2.2.1))]) (fun s2 => ⟨[(30, (Enc.cellsL (s2.2.2 : List Tr)))], [], [], 0, false⟩) ?_ ?_
        ·
         exact zco (bl 66 73210515542534983679) (by kernel_rfl) (by kernel_rfl)
        ·
         intro s2 p2 h
         refine zam (by dsimp only [zz, zad, List.foldl, List.set]) rfl ?_
         refine ze ?_
         refine ze (zc ?_)
         refine zab ?_
         refine zab ?_
         refine w_o (a := .raw (.int .i64 ((((List.length l) - Int.toNat s1) : Nat) : Int))) ?_
         refine w_o (a := .raw (.bool (decide (s2.2.1 < ((((List.length l) - Int.toNat s1) : Nat) : Int))))) ?_
         refine zu h (fun hc4 h => ?_) (fun hc4 h => ?_)
         ·
          refine zaq hc4 rfl ?_
          refine za0 h [5, 32, 33, 34, 35, 38, 39, 40, 41, 42, 43, 44, 45, 46, 47, 48, 49, 50, 51, 52, 53, 54, 55, 56, 57, 58] (fun j4 => [(5, .raw (.int .i64 j4.1))]) (fun j4 => ⟨[(30, (Enc.cellsL (j4.2 : List Tr)))], [], [], 0, false⟩) ?_ ?_
          ·
           intro or4 h hr4
           refine zr ?_
           refine ze ?_
           refine zcw (k0 := 0) (id := 11) 10 (by kernel_rfl) (by kernel_rfl) ?_
           refine zgc ?_
           refine zgc ?_
           refine zgc ?_
           obtain ⟨g8, h⟩ := zh h
           refine h_o (a := .ptr 0 (0 + Int.toNat (((Int.toNat s1 : Nat) : Int) + s2.2.1) * 8)) (h := zse (α := Tr) g8 rfl rfl rfl rfl rfl) ?_
           obtain ⟨g9, h⟩ := zh h
           obtain ⟨x4, hx4, h⟩ := zj h
           refine h_o (a := .agg (Enc.cells (x4 : Tr))) (h := by rw [← hx4]; exact (zc6 (α := Tr) (l := s2.2.2) (i := (((Int.toNat s1 : Nat) : Int) + s2.2.1)) (k := 0) (te := 30) g9 rfl rfl rfl rfl)) ?_
           refine zgc ?_
           refine zgc ?_
           obtain ⟨g10, h⟩ := zh h
           refine h_o (a := .raw (.int .i64 (s2.2.1 - 1))) (h := zfv rfl rfl rfl rfl g10.1 g10.2) ?_
           obtain ⟨g11, h⟩ := zh h
           refine h_o (a := .ptr 0 (0 + Int.toNat (((Int.toNat s1 : Nat) : Int) + (s2.2.1 - 1)) * 8)) (h := zse (α := Tr) g11 rfl rfl rfl rfl rfl) ?_
           obtain ⟨g12, h⟩ := zh h
           obtain ⟨x5, hx5, h⟩ := zj h
           refine h_o (a := .agg (Enc.cells (x5 : Tr))) (h := by rw [← hx5]; exact (zc6 (α := Tr) (l := s2.2.2) (i := (((Int.toNat s1 : Nat) : Int) + (s2.2.1 - 1))) (k := 0) (te := 30) g12 rfl rfl rfl rfl)) ?_
           refine zdr ?_
           obtain ⟨g13, h⟩ := zh h
           obtain ⟨x6, hx6, h⟩ := zj h
           refine za1 (args' := [.agg (Enc.cells (x4 : Tr)), .agg (Enc.cells (x5 : Tr))]) (r := .raw (.bool x6)) (by rw [← hx6]; exact (zmo x4 x5 g13)) rfl rfl (zf (zaf (zl (Enc.clo _))) (zf (zaf (zl (Enc.clo _))) rfl)) (zb (zm _ _ (zl (Enc.clo _))) (zb (zm _ _ (zl (Enc.clo _))) rfl)) (by dsimp only [zn, List.set]) ?_
           refine w_o (a := .raw (.bool (!x6))) ?_
           refine zu h (fun hc5 h => ?_) (fun hc5 h => ?_)
           ·
            refine zaq hc5 rfl ?_
            refine ze (zc ?_)
            refine zab ?_
            refine zab ?_
            refine zab ?_
            refine zab ?_
            obtain ⟨g14, h⟩ := zh h
            refine w_o (a := .ptr 0 (0 + Int.toNat (((Int.toNat s1 : Nat) : Int) + s2.2.1) * 8)) (h := za2 (zse (α := Tr) g14 rfl rfl rfl rfl rfl)) ?_
            obtain ⟨g15, h⟩ := zh h
            obtain ⟨x7, hx7, h⟩ := zj h
            refine w_o (a := .agg (Enc.cells (x7 : Tr))) (h := za2 (by rw [← hx7]; exact (zc6 (α := Tr) (l := s2.2.2) (i := (((Int.toNat s1 : Nat) : Int) + s2.2.1)) (k := 0) (te := 30) g15 rfl rfl rfl rfl))) ?_
            obtain ⟨g16, h⟩ := zh h
            refine w_o (a := .ptr 0 (0 + Int.toNat s2.1 * 8)) (h := za2 (zd9 (α := Tr) g16 rfl rfl rfl rfl rfl)) ?_
            obtain ⟨g17, h⟩ := zh h
            obtain ⟨x8, hx8, h⟩ := zj h
            refine zbc (σ'' := ⟨[(30, (Enc.cellsL ((List.set s2.2.2 (Int.toNat s2.1) x7) : List Tr)))], [], [], 0, false⟩) (h := zis (α := Tr) (l := s2.2.2) (i := s2.1) (k := 0) (te := 30) (n := 8) x7 g17 rfl rfl rfl rfl rfl rfl rfl (by decide) (by decide) (by rw [hx8]; rfl)) ?_
            refine zc (k0 := 0) (id := 13) ?_
            refine zab ?_
            obtain ⟨g18, h⟩ := zh h
            refine w_o (a := .raw (.int .i64 (s2.1 + 1))) (h := za2 (zgv rfl rfl rfl rfl g18.1 g18.2)) ?_
            refine zab ?_
            refine zg (o := or4) ((s2.1 + 1), (List.set s2.2.2 (Int.toNat s2.1) x7)) h ?_
            exact zco (bl 66 73210515752988180479) (by kernel_rfl) (by kernel_rfl)
           ·
            refine zat hc5 rfl ?_
            refine zg (o := or4) (s2.1, s2.2.2) h ?_
            exact zco (bl 66 73210515752988180479) (by kernel_rfl) (by kernel_rfl)
          ·
           intro j4 h
           refine zam (by dsimp only [zz, zad, List.foldl, List.set]) rfl ?_
           refine zc (k0 := 0) (id := 10) ?_
           refine zab ?_
           obtain ⟨g19, h⟩ := zh h
           refine w_o (a := .raw (.int .i64 (s2.2.1 + 1))) (h := za2 (zgv rfl rfl rfl rfl g19.1 g19.2)) ?_
           refine zab ?_
           refine zbb (p := p2) (j4.1, (s2.2.1 + 1), j4.2) h ?_
           exact zco (bl 66 73210515542534983679) (by kernel_rfl) (by kernel_rfl)
         ·
          refine zat hc4 rfl ?_
          refine zae h (fun h => ?_)
          refine zg (o := or3) (s2.1, s2.2.2) h ?_
          exact zco (bl 66 73210515542534983485) (by kernel_rfl) (by kernel_rfl)
       ·
        intro j3 h
        refine zam (by dsimp only [zz, zad, List.foldl, List.set]) rfl ?_
        refine ze (zc ?_)
        refine zab ?_
        refine zab ?_
        obtain ⟨g20, h⟩ := zh h
        refine w_o (a := .bsl 0 (Int.toNat j3.1 * 8) ((List.length l) - Int.toNat j3.1) 8 false) (h := za2 (z3l (α := Tr) g20 rfl rfl rfl rfl rfl)) ?_
        obtain ⟨g21, h⟩ := zh h
        refine zj4 (a := .tup []) (σ'' := ⟨[(30, (Enc.cellsL ((List.take (Int.toNat j3.1) j3.2) : List Tr)))], [], [], 0, false⟩) rfl rfl rfl (z3w (α := Tr) (l := j3.2) g21 rfl rfl rfl rfl rfl rfl rfl rfl rfl rfl rfl (by decide)) (by dsimp only [zn, List.set]) rfl ?_
        refine ze (zc ?_)
        refine zab ?_
        refine zab ?_
        obtain ⟨g22, h⟩ := zh h
        refine w_o (a := .bsl 0 0 (Int.toNat j3.1) 8 (false && (Int.toNat j3.1 == (List.length l)))) (h := za2 (q_bslH (α := Tr) g22.1 rfl rfl rfl rfl rfl)) ?_
        refine zab ?_
        replace h := zp h hr2
        refine zae h (fun h => ?_)
        replace h := zp h hr1
        exact zw2 (R := (List.take (Int.toNat j3.1) j3.2)) h rfl (zba (zv (zo _ _ (Enc.cloL _)) rfl)) rfl g22.2
      ·
       refine zat hc3 rfl ?_
       refine zg (o := or2) () h ?_
       exact zco (bl 66 36893488147419303727) (by kernel_rfl) (by kernel_rfl)
     ·
      intro j2 h
      refine zam (by dsimp only [zz, zad, List.foldl, List.set]) rfl ?_
      refine zc (k0 := 0) (id := 5) ?_
      refine zab ?_
      obtain ⟨g23, h⟩ := zh h
      refine w_o (a := .raw (.int .i64 (s1 + 1))) (h := za2 (zgv rfl rfl rfl rfl g23.1 g23.2)) ?_
      refine zab ?_
      refine zbb (p := p1) ((s1 + 1)) h ?_
      exact zco (bl 66 35) (by kernel_rfl) (by kernel_rfl)
    ·
     refine zat hc2 rfl ?_
     refine zae h (fun h => ?_)
     refine zg (o := or1) () h ?_
     exact zco (bl 66 1) (by kernel_rfl) (by kernel_rfl)
  ·
   intro j1 h
   refine zam (by dsimp only [zz, zad, List.foldl, List.set]) rfl ?_
   refine ze (zc ?_)
   refine zab ?_
   refine zab ?_
   exact zw2 (R := l) h rfl (zba (zv (zo _ _ (Enc.cloL _)) rfl)) rfl rfl
end Go.Ab
