/-
  A function that is handed one box; clear; a box under a pile.
-/
import Derived.Test.YtmoncghgagmilaaZnV5
import Derived.Test.YtmoncghgagmilaaZnV3
import Derived.Test.YtmoncghgagmilaaZdQq
set_option linter.unusedSimpArgs false
set_option linter.unusedVariables false
namespace Go.Ab
open Go Go.RowKit Go.Fwd Go.Proofs
def zw8 (b n sz : Nat) : AV := match n with | 0 => .list 0 [] .full | n + 1 => .bsl b 0 (n + 1) sz false
section
variable {α : Type}
theorem zeo {e : List α} (h : e.isEmpty = true) (b sz : Nat) : zw8 b e.length sz = .list 0 [] .full := by rw [List.isEmpty_iff.1 h]; rfl
theorem ze6 {e : List α} (h : e.isEmpty = false) (b sz : Nat) : zw8 b e.length sz = .bsl b 0 e.length sz false := by
 cases e with
 | nil => cases h
 | cons x l => rfl
theorem zeb {l : List α} {n : Nat} (h : l.length = n) (hp : 0 < n) (b sz : Nat) : AV.bsl b 0 n sz false = zw8 b l.length sz := by
 subst h
 cases l with
 | nil => exact absurd hp (Nat.lt_irrefl _)
 | cons x l => rfl
theorem zl6 {k b n sz : Nat} (h : b < k) : za8 k (zw8 b n sz) = true := by
 cases n with
 | zero => rfl
 | succ n => simp [zw8, za8, h]
theorem zep {e : List α} (h : e.isEmpty = false) : 0 < e.length := by
 cases e with
 | nil => cases h
 | cons x l => simp
end
section
variable {α : Type} [Enc α] {P : Program} {ρ : Operand → AV} {σ : St} {o : Oper}
theorem zjh {c : Call} {x y : Operand} {t e : TypeId} {i : TypeInfo} {z : Value} {by' : Nat} {r : List α} {st : Room} (hn : 0 < r.length ∧ r.length * by' ≤ 140737488355328) (ho : o.op = .call c) (hc : c.callee = .builtin .append) (ha : c.args.toList = [x, y]) (ht : c.argTypes.toList = [t, t])
 (hx : ρ x = .list 0 [] .full) (hy : ρ y = .list r.length (Enc.cellsL r) st) (hu : P.underlying t = some (.slice e)) (hi : P.info? e = some i) (hz : i.zero = some z) (hsz : i.size = Enc.sz α) (hzs : z.cells.size = Enc.sz α) (hby : i.bytes = by' ∧ 0 < by') :
 zpn P ρ σ o = some (.bsl σ.boxes.length 0 r.length (Enc.sz α) false, { σ with boxes := σ.boxes ++ [(e, Enc.cellsL r)] }) := by
 obtain ⟨h1, h2⟩ := hn
 have hp := Enc.pos (α := α)
 have hsrc : z09 P σ (Enc.sz α) t t (ρ y) = some (r.length, Enc.cellsL r) := by rw [hy]; exact zhq ⟨rfl, by rw [Enc.lenL], by omega⟩
 have hmax : r.length ≤ maxLen := by
  unfold maxLen
  have : r.length * 1 ≤ r.length * by' := Nat.mul_le_mul_left _ hby.2
  omega
 have h := zza (P := P) (σ := σ) ho hc ha ht hx hu hi hz hsz hsrc ⟨hp, hzs, h1⟩ ⟨by simp, by rw [Nat.zero_add]; exact hmax, by rw [Nat.zero_add, hby.1]; exact h2⟩
 rw [h, Nat.zero_add, List.nil_append]
theorem zy3 {c : Call} {x y : Operand} {t e : TypeId} {i : TypeInfo} {z : Value} {s n by' : Nat} {l r : List α} {st : Room} (hn : n ≤ l.length ∧ 0 < r.length ∧ (n + r.length) * by' ≤ 140737488355328) (ho : o.op = .call c) (hc : c.callee = .builtin .append) (ha : c.args.toList = [x, y]) (ht : c.argTypes.toList = [t, t])
 (hx : ρ x = .bsl s 0 n (Enc.sz α) true) (hy : ρ y = .list r.length (Enc.cellsL r) st) (hb : σ.boxes[s]? = some (e, Enc.cellsL l)) (hu : P.underlying t = some (.slice e)) (hi : P.info? e = some i) (hz : i.zero = some z) (hsz : i.size = Enc.sz α) (hzs : z.cells.size = Enc.sz α) (hby : i.bytes = by' ∧ 0 < by') :
 zpn P ρ σ o = some (.bsl σ.boxes.length 0 (n + r.length) (Enc.sz α) false, { σ with boxes := σ.boxes ++ [(e, Enc.cellsL (l.take n ++ r))] }) := by
 obtain ⟨h1, h3, h4⟩ := hn
 have hp := Enc.pos (α := α)
 have hsrc : z09 P σ i.size t t (ρ y) = some (r.length, Enc.cellsL r) := by rw [hy]; exact zhq ⟨rfl, by rw [Enc.lenL, hsz], by omega⟩
 have hmax : n + r.length ≤ maxLen := by
  unfold maxLen
  have : (n + r.length) * 1 ≤ (n + r.length) * by' := Nat.mul_le_mul_left _ hby.2
  omega
 have hle : 0 + n * Enc.sz α ≤ (Enc.cellsL l).length := by rw [Enc.lenL, Nat.zero_add]; exact Nat.mul_le_mul_right _ h1
 have hnn : zkr (.bsl s 0 n (Enc.sz α) true) = false := rfl
 have c1 : 0 < i.size ∧ z.cells.size = i.size ∧ 0 < r.length := ⟨by omega, by omega, h3⟩
 have c2 : Enc.sz α = i.size ∧ n + r.length ≤ maxLen ∧ (n + r.length) * i.bytes ≤ 140737488355328 ∧ 0 + n * Enc.sz α ≤ (Enc.cellsL l).length := ⟨hsz.symm, hmax, by rw [hby.1]; exact h4, hle⟩
 simp only [zpn, ho, hc, ha, ht, hx, hnn, Bool.false_eq_true, if_false, zl0, hu, hi, hz, hsrc, hb, if_pos c1, if_pos c2, if_true, List.drop_zero]
 rw [Enc.app, Enc.take]
theorem z78 {t e : TypeId} {x h1 h2 : Operand} {s n : Nat} {f : Bool} {k k' : IntKind} {j : Int} (g : 0 < j ∧ j ≤ n) (ho : o.op = .slice t x none (some h1) (some h2)) (hx : ρ x = .bsl s 0 n (Enc.sz α) f) (hi : ρ h1 = .raw (.int k j)) (hi2 : ρ h2 = .raw (.int k' j)) (hu : P.underlying t = some (.slice e)) (hs : zec P e = some (Enc.sz α)) :
 qop P ρ σ o = some (.bsl s 0 j.toNat (Enc.sz α) true) := by
 have h4 : zd3 n none (some (.raw (.int k j))) (some (.raw (.int k' j))) = some (0, j.toNat, true) := by
  have c : 0 ≤ j ∧ j ≤ (n : Int) := by omega
  have c2 : 0 ≤ j ∧ j ≤ ((j.toNat : Nat) : Int) := by omega
  have c3 : (0 ≤ j ∧ j ≤ max j 0) := by omega
  simp only [zd3, zg0, if_pos c]
  first | rw [if_pos c] | skip
  simp [if_pos c3]
 have hlt : 0 < j.toNat := by omega
 simp only [qop, ho, hx, hi, hi2, Option.map_some, Option.map_none, zik, hu, hs, h4, if_true, if_pos hlt, Nat.zero_add, Nat.zero_mul, Nat.sub_zero]
 simp
theorem z10 {t e : TypeId} {x h1 h2 : Operand} {s n : Nat} {f : Bool} {k k' : IntKind} {j : Int} (g : j = 0) (ho : o.op = .slice t x none (some h1) (some h2)) (hx : ρ x = .bsl s 0 n (Enc.sz α) f) (hi : ρ h1 = .raw (.int k j)) (hi2 : ρ h2 = .raw (.int k' j)) (hu : P.underlying t = some (.slice e)) (hs : zec P e = some (Enc.sz α)) :
 qop P ρ σ o = some (.list 0 [] .full) := by
 subst g
 have h4 : zd3 n none (some (.raw (.int k 0))) (some (.raw (.int k' 0))) = some (0, 0, true) := by
  have c : 0 ≤ (0 : Int) ∧ (0 : Int) ≤ (n : Int) := by omega
  simp only [zd3, zg0, if_pos c]
  first | rw [if_pos c] | skip
  simp
 simp only [qop, ho, hx, hi, hi2, Option.map_some, Option.map_none, zik, hu, hs, h4, if_true, Nat.lt_irrefl, if_false]
 simp
theorem q_bslLz {t e : TypeId} {x i : Operand} {s n : Nat} {k : IntKind} {j : Int} (g : 0 ≤ j ∧ j = n) (ho : o.op = .slice t x (some i) none none) (hx : ρ x = .bsl s 0 n (Enc.sz α) false) (hi : ρ i = .raw (.int k j)) (hu : P.underlying t = some (.slice e)) (hs : zec P e = some (Enc.sz α)) :
 qop P ρ σ o = some (.list 0 [] .none) := by
 have h4 : zd3 n (some (.raw (.int k j))) none none = some (j.toNat, n, false) := by
  have c : 0 ≤ j ∧ j ≤ (n : Int) := by omega
  simp only [zd3, zg0, if_pos c]
 have hlt : ¬ j.toNat < n := by omega
 simp only [qop, ho, hx, hi, Option.map_some, Option.map_none, zik, hu, hs, h4, if_true, if_neg hlt]
 simp
theorem zs5 {t e : TypeId} {x i : Operand} {s n off : Nat} {f : Bool} {k : IntKind} {j : Int} (g : 0 ≤ j ∧ j < n) (ho : o.op = .indexAddr t x i) (hx : ρ x = .bsl s (off * Enc.sz α) n (Enc.sz α) f) (hi : ρ i = .raw (.int k j)) (hu : P.underlying t = some (.slice e)) (hs : zec P e = some (Enc.sz α)) :
 qop P ρ σ o = some (.ptr s (0 + ((off : Int) + j).toNat * Enc.sz α)) := by
 rw [zys ho hx hi hu hs g]
 congr 2
 rw [show ((off : Int) + j).toNat = off + j.toNat by omega, Nat.add_mul, Nat.zero_add]
end
section
variable {P : Program} {ρ : Operand → AV} {σ : St} {o : Oper}
theorem q_max3 {c : Call} {x y z : Operand} {k k' k'' : IntKind} {m n r : Int} (ho : o.op = .call c) (hc : c.callee = .builtin .max) (ha : c.args = #[x, y, z]) (hx : ρ x = .raw (.int k m)) (hy : ρ y = .raw (.int k' n)) (hz : ρ z = .raw (.int k'' r)) : qop P ρ σ o = some (.raw (.int k (max (max m n) r))) := by
 have e : (if n > m then n else m) = max m n := by split <;> omega
 have e2 : (if r > max m n then r else max m n) = max (max m n) r := by split <;> omega
 simp [qop, zhm, ho, hc, ha, Op.operands, Call.operands, hx, hy, hz, zhj, execOp, zcv, resolve, invoke, builtin, Builtin.max_, Builtin.max2, val?, zni, zju, zhe, e, e2]
 simp [Pure.pure, Bind.bind, Sem.bind, val?, zni, zju, zhe, e, e2]
end
end Go.Ab
set_option linter.unusedSimpArgs false
set_option linter.unusedVariables false
namespace Go.Ab
open Go Go.RowKit Go.Fwd Go.Proofs
section
variable {IT : IterP} {P : Program} {W : Owed} {k0 : Nat}
theorem w_opR {ops : Array Oper} {Q : List AV → St → Prop} {o : Oper} {l : List Oper} {S S' : List AV} {σ σ' : St} {a : AV} (hg : o.guard = none) (hc : zcz S o = none) (hy : zdj S o = none) (h : AopR P (zcs S) σ o a σ') (hS : zp S o.dst a = S') (k : zco IT P W ops Q l S' σ') : zco IT P W ops Q (o :: l) S σ := by
 simp only [zco, hg, zfh, hc, hy]
 exact .inl ⟨a, σ', h, by rw [hS]; exact k⟩
end
theorem Wk.tr {n : Nat} {S S1 S2 : List AV} {σ σ1 σ2 : St} (h : Wk n S σ S1 σ1) (k : Wk n S1 σ1 S2 σ2) : Wk n S σ S2 σ2 := by
 induction h with
 | one h => exact .step h k
 | step h _ ih => exact .step h (ih k)
theorem snd_box {IT : IterP} (hIT : ITMono IT) {P : Program} {f : FuncId} {ar ar' : List AV} {n m sz : Nat} {σ : St} {s : Nat} {t : TypeId} {cs cs' : List AV} {fl : Bool} (h : Snd IT P f (.bsl 0 0 n sz false :: ar') ⟨[(t, cs)], [], [], 0, false⟩ (.bsl 0 0 m sz false) ⟨[(t, cs')], [], [], 0, false⟩)
 (has : stripL ar = ar') (hok : z7 0 ar = true) (hcl0 : cloL cs = true) (hcl : cloL cs' = true) (hne : cs ≠ []) (hb : σ.boxes[s]? = some (t, cs)) : Snd IT P f (.bsl s 0 n sz fl :: ar) σ (.bsl s 0 m sz false) { σ with boxes := σ.boxes.set s (t, cs') } := by
 refine ⟨h.1, fun X vs hI hr => ?_⟩
 obtain ⟨v0, vr, rfl, hv0, hrr⟩ := hr
 obtain ⟨b, cap, cur, t1, hκ, rfl, hcap, _, hrow, hfit⟩ := (show Bsl X s 0 n sz fl v0 from hv0)
 have hbX := hI.κF s b t cs hκ hb hne
 have hsl : s < σ.boxes.length := (List.getElem?_eq_some_iff.1 hb).1
 obtain ⟨us0, zs0, u1, u2, u3⟩ := hI.box s b t cs hκ hb
 have hI0 : Inv IT ⟨[(t, cs)], [], [], 0, false⟩ ⟨X.F, [b], [], [], X.w, fun _ => False, fun _ _ => False⟩ := {
  lens := rfl, elems := rfl, κlen := rfl
  κnd := fun s1 s2 b1 h1 h2 h3 => by
   have e1 := (List.getElem?_eq_some_iff.1 h1).1
   have e2 := (List.getElem?_eq_some_iff.1 h2).1
   simp at e1 e2; omega
  box := fun s1 b1 t1 c1 h1 h2 => by
   have e1 := (List.getElem?_eq_some_iff.1 h1).1
   obtain rfl : s1 = 0 := by simp at e1; omega
   cases h1; cases h2
   have q := zc0 (X := X) (Y := ⟨X.F, [b], [], [], X.w, fun _ => False, fun _ _ => False⟩) hIT rfl rfl _ _ (.inl (zm _ _ hcl0)) u2
   rw [zcr _ hcl0] at q
   exact ⟨us0, zs0, u1, q, u3⟩
  κF := fun s1 b1 t1 c1 h1 h2 h3 o => by
   have e1 := (List.getElem?_eq_some_iff.1 h1).1
   obtain rfl : s1 = 0 := by simp at e1; omega
   cases h1
   exact hbX o
  βlen := rfl, βnd := List.nodup_nil
  βκ := fun r h => by simp at h
  row := fun s r L h => by simp at h
  Ok := fun b h => h.elim
  Fcell := hI.Fcell
  gv := hI.gv }
 have hr0 : zbf IT ⟨X.F, [b], [], [], X.w, fun _ => False, fun _ _ => False⟩ (.bsl 0 0 n sz false :: ar') (.slice (some ⟨b, 0, none⟩) n cap :: vr) :=
  ⟨_, _, rfl, ⟨b, cap, cur, t1, rfl, rfl, hcap, (fun h => by cases h), hrow, hfit⟩, has ▸ zc0 (X := X) (Y := ⟨X.F, [b], [], [], X.w, fun _ => False, fun _ _ => False⟩) hIT rfl rfl ar vr (.inl hok) hrr⟩
 refine (h.2 _ _ hI0 hr0).mono ?_
 rintro e w' ⟨v, Y, rfl, rfl, hE, hIY, hv⟩
 have hYκ : Y.κ[0]? = some b := hE.κ 0 b rfl
 have hblk : ∀ k, k < X.w.heap.size → k ≠ b → Y.w.heap[k]? = X.w.heap[k]? := fun k hk hn => hE.frame k hk (by simpa using hn) (by simp)
 have hFn : ∀ b' i, Y.F b' i → X.F b' i ∨ X.w.heap.size ≤ b' ∨ b' = b := fun b' i hf => by
  rcases hE.Fnew b' i hf with h | h | ⟨q, hq, _⟩ | h
  ·exact .inl h
  ·exact .inr (.inl h)
  ·simp at hq
  ·exact .inr (.inr (by simpa using h))
 obtain ⟨us, zs, q1, q2, q3⟩ := hIY.box 0 b t cs' hYκ rfl
 have hX : Ext X ⟨Y.F, X.κ, X.β, X.lens, Y.w, X.O, X.C⟩ := {
  os := hE.os, tape := hE.tape, output := hE.output, size := hE.size, drawn := hE.drawn, F := hE.F, cell := hE.cell
  κ := fun _ _ h => h
  lens := fun s L h => ⟨L, h, Nat.le_refl _, fun _ => rfl⟩
  blk := fun s' b' hs cur' t' f' hc => by
   by_cases e : b' = b
   ·subst e; exact hE.blk 0 b' rfl cur' t' f' hc
   ·exact ⟨cur', (hblk b' (hI.κlt (List.mem_of_getElem? hs)) e).trans hc, rfl⟩
  szs := hE.szs
  frame := fun b' hb' hk _ => hblk b' hb' fun e => hk (e ▸ List.mem_of_getElem? hκ)
  κnew := fun _ h => .inl h
  βnew := fun r h => .inl ⟨r, h, rfl⟩
  O := rfl
  C := rfl
  Fnew := fun b' i hf => by
   rcases hFn b' i hf with h | h | h
   ·exact .inl h
   ·exact .inr (.inl h)
   ·exact .inr (.inr (.inr (h ▸ List.mem_of_getElem? hκ))) }
 have hdead : ∀ s' t' c', X.κ[s']? = some b → s' ≠ s → σ.boxes[s']? = some (t', c') → c' = [] := fun s' t' c' h1 h2 h3 => by
  rcases hI.κnd s' s b h1 hκ h2 with ⟨t2, h4⟩ | ⟨t2, h4⟩
  ·rw [h3] at h4; cases h4; rfl
  ·rw [hb] at h4; cases h4; exact absurd rfl hne
 refine ⟨v, ⟨Y.F, X.κ, X.β, X.lens, Y.w, X.O, X.C⟩, rfl, rfl, hX, { lens := hI.lens, elems := hI.elems, κlen := by simpa using hI.κlen, κnd := ?_, box := ?_, κF := ?_, βlen := hI.βlen, βnd := hI.βnd, βκ := hI.βκ, row := ?_, Ok := ?_, Fcell := hIY.Fcell, gv := hIY.gv }, ?_⟩
 ·intro s1 s2 b1 h1 h2 h3
  simp only
  rcases hI.κnd s1 s2 b1 h1 h2 h3 with ⟨t2, h4⟩ | ⟨t2, h4⟩
  ·have : s ≠ s1 := fun e => by subst e; rw [hb] at h4; cases h4; exact hne rfl
   exact .inl ⟨t2, by rw [List.getElem?_set_ne this]; exact h4⟩
  ·have : s ≠ s2 := fun e => by subst e; rw [hb] at h4; cases h4; exact hne rfl
   exact .inr ⟨t2, by rw [List.getElem?_set_ne this]; exact h4⟩
 ·intro s' b' t' c' hs hb'
  simp only at hs hb'
  by_cases e : s' = s
  ·subst e
   rw [List.getElem?_set_self hsl] at hb'
   cases hb'
   rw [hκ] at hs; cases hs
   refine ⟨us, zs, q1, ?_, q3⟩
   have q := zc0 (X := Y) (Y := ⟨Y.F, X.κ, X.β, X.lens, Y.w, X.O, X.C⟩) hIT rfl rfl _ _ (.inl (zm _ _ hcl)) q2
   rwa [zcr _ hcl] at q
  ·rw [List.getElem?_set_ne (Ne.symm e)] at hb'
   obtain ⟨us1, zs1, v1, v2, v3⟩ := hI.box s' b' t' c' hs hb'
   by_cases e2 : b' = b
   ·subst e2
    obtain rfl := hdead s' t' c' hs e hb'
    rw [u1] at v1
    injection v1 with v1
    injection v1 with _ v1
    subst v1
    exact ⟨[], us ++ zs, q1, rfl, fun v hv => by cases hv⟩
   ·exact ⟨us1, zs1, (hblk b' (hI.κlt (List.mem_of_getElem? hs)) e2).trans v1, zat hIT hX _ _ v2, v3⟩
 ·intro s' b' t' c' hs hb' hne' o hf
  simp only at hs hb' hf
  by_cases e : s' = s
  ·subst e
   rw [List.getElem?_set_self hsl] at hb'
   cases hb'
   rw [hκ] at hs; cases hs
   exact hIY.κF 0 b t cs' hYκ rfl hne' o hf
  ·rw [List.getElem?_set_ne (Ne.symm e)] at hb'
   rcases hFn b' o hf with h | h | h
   ·exact hI.κF s' b' t' c' hs hb' hne' o h
   ·have := hI.κlt (List.mem_of_getElem? hs); omega
   ·subst h; exact hne' (hdead s' t' c' hs e hb')
 ·intro s' q L hq hL
  obtain ⟨cur', fz, c1, c2, c3, c4, c5, c6, c7⟩ := hI.row s' q L hq hL
  have hlt := hI.βlt (List.mem_of_getElem? hq)
  have hnb : q.block ≠ b := fun e => hI.βκ q (List.mem_of_getElem? hq) (e ▸ List.mem_of_getElem? hκ)
  refine ⟨cur', fz, (hblk _ hlt hnb).trans c1, c2, c3, c4, c5, fun o hf => ?_, c7⟩
  rcases hFn _ o hf with h | h | h
  ·exact c6 o h
  ·omega
  ·exact absurd h hnb
 ·intro b' ho
  obtain ⟨⟨cs0, t0, f0, h0⟩, h2, h3, h4⟩ := hI.Ok b' ho
  have hlt := hI.Olt ho
  have hnb : b' ≠ b := fun e => h2 (e ▸ List.mem_of_getElem? hκ)
  refine ⟨⟨cs0, t0, f0, (hblk b' hlt hnb).trans h0⟩, h2, h3, fun o hf => ?_⟩
  rcases hFn b' o hf with h | h | h
  ·exact h4 o h
  ·omega
  ·exact absurd h hnb
 ·obtain ⟨b1, cap1, cur1, t2, k1, rfl, k3, k4, k5, k6⟩ := (show Bsl Y 0 0 m sz false v from hv)
  rw [hYκ] at k1; cases k1
  exact ⟨b, cap1, cur1, t2, hκ, rfl, k3, k4, k5, k6⟩
section
variable {α : Type} [Enc α] {P : Program} {ρ : Operand → AV} {σ : St} {o : Oper}
theorem z4y {c : Call} {x : Operand} {t e t0 : TypeId} {i : TypeInfo} {z : Value} {s k n : Nat} {f : Bool} {l : List α} (hn : k ≤ l.length ∧ 0 < l.length ∧ 0 < n) (ho : o.op = .call c) (hc : c.callee = .builtin .clear) (ha : c.args.toList = [x]) (ht : c.argTypes.toList = [t])
 (hx : ρ x = .bsl s (k * Enc.sz α) n (Enc.sz α) f) (hb : σ.boxes[s]? = some (t0, Enc.cellsL l)) (hu : P.underlying t = some (.slice e)) (hi : P.info? e = some i) (hz : i.zero = some z) (hsz : i.size = Enc.sz α) (hzs : z.cells.size = Enc.sz α) (h1 : z.cells.toList.all (·.oneCell') = true) :
 zpn P ρ σ o = some (.tup [], { σ with boxes := σ.boxes.set s (t0, Enc.cellsL (l.take k)) }) := by
 obtain ⟨h2, h3, h4⟩ := hn
 have hl : k * Enc.sz α ≤ (Enc.cellsL l).length := by rw [Enc.lenL]; exact Nat.mul_le_mul_right _ h2
 have he : (Enc.cellsL l).isEmpty = false := by
  cases hE : Enc.cellsL l with
  | nil =>
   have := Enc.lenL l
   rw [hE] at this
   have h5 := Nat.mul_pos h3 (Enc.pos (α := α))
   simp at this; omega
  | cons _ _ => rfl
 simp only [zpn, ho, hc, ha, ht, hx, zvl, hu, hi, hb, hz]
 rw [if_pos ⟨hsz, hzs, he, hl, h4, h1⟩, Enc.take]
theorem zw7 {fn : Func} {S : List AV} {R r : List α} {t : TypeId} {n sz : Nat} (h : some R = some r) (ha : zbr P fn σ S = some (.bsl 0 0 n sz false)) (hok : zth 1 σ = true) (hσ : zei 1 σ = ⟨[(t, Enc.cellsL R)], [], [], 0, false⟩) (hn : R.length = n) :
 aendS P fn 1 0 (.bsl 0 0 r.length sz false) ⟨[(t, Enc.cellsL r)], [], [], 0, false⟩ .ret S σ := by
 cases h
 subst hn
 exact ⟨_, ha, zut rfl hok rfl hσ⟩
end
end Go.Ab
