/-
  Own lists ahead of which others lie that grow no more.
-/
import Derived.Test.YtmoncghgagmilaaZdSh
import Derived.Test.YtmoncghgagmilaaZnV3
set_option linter.unusedSimpArgs false
set_option linter.unusedVariables false
namespace Go.Ab
open Go Go.RowKit Go.Fwd
def zg1 (k n : Nat) (cs : List AV) : AV := if n = 0 then .list 0 [] .full else .list n cs (.own k)
def zgy (bs : List (TypeId × List AV)) (pl : List Nat) (pe : List TypeId) (e : TypeId) (n sz : Nat) : St := ⟨bs, pl ++ if n = 0 then [] else [n * sz], pe ++ if n = 0 then [] else [e], 0, false⟩
theorem z5c {n : Nat} {cs : List AV} (h : ¬ n = 0) : zee n cs = .list n cs (.own 0) := if_neg h
theorem zry {k n : Nat} {cs : List AV} (h : ¬ n = 0) : zg1 k n cs = .list n cs (.own k) := if_neg h
theorem z5w {bs : List (TypeId × List AV)} {e n sz : Nat} (h : ¬ n = 0) : zc0 bs e n sz = ⟨bs, [n * sz], [e], 0, false⟩ := by rw [zc0, if_neg h, if_neg h]
theorem zkn {bs : List (TypeId × List AV)} {pl : List Nat} {pe : List TypeId} {e n sz : Nat} (h : ¬ n = 0) : zgy bs pl pe e n sz = ⟨bs, pl ++ [n * sz], pe ++ [e], 0, false⟩ := by rw [zgy, if_neg h, if_neg h]
theorem ne_of0 {α : Type} {l : List α} (h : ((l.length : Int) == 0) = false) : ¬ l.length = 0 := fun e => by rw [e] at h; simp at h
theorem zb2 {n : Nat} {cs : List AV} {st : Room} (h : cloL cs = true) : zb7 (.list n cs st) = .list n cs .none := by rw [zb7, zb9 _ h]
theorem zd3 {α : Type} [Enc α] {P : Program} {t e : TypeId} {i : TypeInfo} {z : Value} {st : Room} {bs : List (TypeId × List AV)} {pl : List Nat} {pe : List TypeId} {k : Nat} {a b : List α} {by' : Nat} (hk : pl.length = k) (hk2 : pe.length = k)
 (hb : (a.length + b.length) * by' ≤ 140737488355328) (hu : P.underlying t = some (.slice e)) (hi : P.info? e = some i) (hz : i.zero = some z) (hsz : i.size = Enc.sz α) (hzs : z.cells.size = Enc.sz α) (hby : i.bytes = by' ∧ 0 < by') :
 zen P (zgy bs pl pe e a.length (Enc.sz α)) t (zg1 k a.length (Enc.cellsL a)) (.list b.length (Enc.cellsL b) st) = some (zg1 k (a ++ b).length (Enc.cellsL (a ++ b)), zgy bs pl pe e (a ++ b).length (Enc.sz α)) := by
 have hm : a.length + b.length ≤ maxLen := by
  have h1 : a.length + b.length ≤ (a.length + b.length) * by' := Nat.le_mul_of_pos_right _ hby.2
  have h2 : 140737488355328 ≤ maxLen := by decide
  omega
 have la := Enc.lenL a
 have lb := Enc.lenL b
 have hpos : 0 < Enc.sz α := Enc.pos
 rcases Nat.eq_zero_or_pos b.length with h0 | h0
 ·have e1 : b = [] := List.length_eq_zero_iff.1 h0
  subst e1
  rw [List.append_nil, Enc.nil]
  unfold zg1
  split <;> simp [zen, hu, hi, hz]
 ·have hne : ¬ (a ++ b).length = 0 := by rw [List.length_append]; omega
  have hmz : ¬ (b.length = 0 ∧ Enc.cellsL b = []) := fun h => by omega
  have hbb : (a.length + b.length) * i.bytes ≤ 140737488355328 := by rw [hby.1]; exact hb
  rw [zry hne, zkn hne]
  rcases Nat.eq_zero_or_pos a.length with a0 | a0
  ·have e1 : a = [] := List.length_eq_zero_iff.1 a0
   subst e1
   have hc : (([] : List AV)).length = 0 * i.size ∧ (Enc.cellsL b).length = b.length * i.size ∧ 0 < b.length ∧ z.cells.size = i.size ∧ 0 < i.size ∧ 0 + b.length ≤ maxLen ∧ (0 + b.length) * i.bytes ≤ 140737488355328 := by
    rw [hsz]; simp only [List.length_nil] at hm hbb; exact ⟨by simp, lb, h0, hzs, hpos, hm, hbb⟩
   have ea : zg1 k ([] : List α).length (Enc.cellsL ([] : List α)) = .list 0 [] .full := by unfold zg1; rw [if_pos List.length_nil]
   have es : zgy bs pl pe e ([] : List α).length (Enc.sz α) = ⟨bs, pl, pe, 0, false⟩ := by unfold zgy; rw [if_pos List.length_nil, if_pos List.length_nil, List.append_nil, List.append_nil]
   rw [ea, es]
   simp only [zen, hu, hi, hz, if_neg hmz, if_pos hc, hk]
   simp [hsz]
  ·have ha : ¬ a.length = 0 := by omega
   rw [zry ha, zkn ha]
   have hc : (Enc.cellsL a).length = a.length * Enc.sz α ∧ (Enc.cellsL b).length = b.length * Enc.sz α ∧ 0 < b.length ∧ z.cells.size = Enc.sz α ∧ 0 < Enc.sz α ∧ a.length + b.length ≤ maxLen ∧ (a.length + b.length) * i.bytes ≤ 140737488355328 :=
    ⟨la, lb, h0, hzs, hpos, hm, hbb⟩
   have hl : (pl ++ [a.length * Enc.sz α])[k]? = some (Enc.cellsL a).length := by rw [← hk, List.getElem?_append_right (Nat.le_refl _), Nat.sub_self, la]; rfl
   have he : (pe ++ [e])[k]? = some e := by rw [← hk2, List.getElem?_append_right (Nat.le_refl _), Nat.sub_self]; rfl
   have hset : (pl ++ [a.length * Enc.sz α]).set k ((a.length + b.length) * Enc.sz α) = pl ++ [(a.length + b.length) * Enc.sz α] := by
    rw [← hk]; simp
   simp only [zen, hu, hi, hz, hsz, if_neg hmz, if_pos hc, hl, he, a0, and_self, if_true, hset, Enc.app, List.length_append]
end Go.Ab
