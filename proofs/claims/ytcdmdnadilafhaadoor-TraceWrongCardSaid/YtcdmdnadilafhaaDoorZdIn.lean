/-
  slices.Insert: out of what it does in memory, a contract of the abstract machine.
-/
import Derived.Test.YtcdmdnadilafhaaDoorZtQc
import Derived.Test.YtcdmdnadilafhaaDoorZtW8
import Derived.Shelf.Spec.SlicesInsert
import Derived.Lib.AppendZerosOnto
import Derived.Laws.CopyRow
set_option linter.unusedSimpArgs false
set_option linter.unusedVariables false
namespace Go.Ab
open Go Go.RowKit Go.Fwd
end Go.Ab
set_option linter.unusedSimpArgs false
set_option linter.unusedVariables false
namespace Go.Ab
open Go Go.RowKit Go.Fwd Go.Proofs
theorem run_copyM {P : Program} (w : World) (t ty e : TypeId) (i : TypeInfo) (hu : P.underlying t = some (.slice e)) (hi : P.info? e = some i) (b off n cap k m sc : Nat) (a : Addr) (us : List Value) (cur : Array Value) (t0 : TypeId)
    (hrow : w.heap[b]? = some (.cells cur t0 (0, 0))) (hk : Nat.min m n = k) (hul : us.length = k * i.size) (hcells : ∀ j v, us[j]? = some v → w.cell? (a.add j) = some v) (hfit : off + k * i.size ≤ cur.size) (hone : ∀ v ∈ us, v.oneCell' = true) :
    (Builtin.copy_ #[t, t] ty #[.slice (some ⟨b, off, none⟩) n cap, .slice (some a) m sc]).run P w = .ok (goInt k) (w.setRow b (cur.toList.take off ++ us ++ cur.toList.drop (off + us.length)).toArray) := by
  have hst := run_storeCells_at P b off t0 us 0 cur w hrow (by omega) hone
  have hf := run_firstCells_some (P := P) w i.size k a m sc us hul hcells
  simp only [Nat.add_zero] at hst
  have hl : (Builtin.lenOf (.slice (some a) m sc)).run P w = .ok m w := rfl
  simp [Builtin.copy_, run_underlying hu, sizeOf, typeInfo, program, Sem.run, hi, hl, hk, hf, hst, Builtin.lenOf]
theorem run_overlapsF {P : Program} (w : World) (tS tR e : TypeId) (ht : P.underlying tS = some (.slice e)) (size : Nat) (hz : ∀ w, (Go.sizeOf e).run P w = .ok size w)
    (a b : Addr) (la ca lb cb : Nat) (hne : a.block ≠ b.block) (tA tB : TypeId) (kA kB : Nat)
    (hsa : w.shape? a.block = some (tA, kA)) (hkA : kA ≠ 0) (hsb : w.shape? b.block = some (tB, kB)) (hfa : w.frozen? b = false) (hfe : w.frozen? { block := b.block, off := kB } = false) :
    (Extern.SlicesOverlaps.overlaps #[tS, tS] #[tR] #[.slice (some a) la ca, .slice (some b) lb cb]).run P w = .ok (.bool false) w := by
  have hnb : (a.block != b.block) = true := by simpa using hne
  have hnb' : (a.block == b.block) = false := by simpa using hne
  change Sem.run P (α := Value) (do
    let some t := (#[tS, tS] : Array TypeId)[0]? | stuck "slices.overlaps: no parameter types"
    let .slice elem ← underlying t | stuck "slices.overlaps: slice type expected"
    let size ← sizeOf elem
    match (some a : Option Addr), (some b : Option Addr) with
    | some a, some b =>
      if la = 0 ∨ lb = 0 ∨ size = 0 then pure (Value.bool false)
      else if a.block != b.block && (← frozen a) && (← frozen b) then unsupported .addressObserved
      else do
        if a.block != b.block then do
          noView a; noView b
          if ← mayBeOne a b then return Value.bool ((← choose (.extern "sameAddr.stringBytes" 2)) == 1)
        pure (Value.bool (a.block == b.block && a.off < b.off + lb * size && b.off < a.off + la * size))
    | _, _ => pure (Value.bool false)) w = _
  by_cases h0 : la = 0 ∨ lb = 0 ∨ size = 0
  · simp [run_underlying ht, hz, h0]
  · cases kA with
    | zero => exact absurd rfl hkA
    | succ kA =>
      cases hq : w.frozen? a <;> cases hq2 : w.frozen? ⟨a.block, kA + 1, none⟩ <;> simp [run_underlying ht, hz, h0, hnb, hnb', frozen, noView, viewAt, mayBeOne, stringish, shape, Sem.run, hsa, hsb, hfa, hfe, hq, hq2]
theorem alloc_setRow (w : World) (r0 r : Array Value) (t : TypeId) : (w.alloc (.cells r0 t)).setRow w.heap.size r = w.alloc (.cells r t) := by
  unfold World.setRow World.alloc
  congr 1
  apply Array.ext_getElem?
  intro j
  rw [Array.getElem?_modify]
  by_cases h : w.heap.size = j
  · subst h; simp
  · rw [if_neg h, Array.getElem?_push, Array.getElem?_push, if_neg (Ne.symm h), if_neg (Ne.symm h)]
structure InsLaw (P : Program) (f : FuncId) (S e : TypeId) (sz by' : Nat) : Prop where
  room : ∀ (b n c i vb voff m vc : Nat) (R V : List Value) (t0 : TypeId) (tA : TypeId) (kA : Nat) (w : World) (hi : i < n) (hm : 0 < m) (hroom : n + m ≤ c) (hc63 : n + m ≤ 4611686018427387904) (hvb : vb ≠ b)
    (hrow : w.heap[b]? = some (.cells R.toArray t0 (0, 0))) (hR : c * sz ≤ R.length) (hone : ∀ v ∈ R.take (n * sz), v.oneCell' = true) (hVl : V.length = m * sz) (hV : ∀ j v, V[j]? = some v → w.cell? ⟨vb, voff + j, none⟩ = some v) (h1v : ∀ v ∈ V, v.oneCell' = true)
    (hsa : w.shape? vb = some (tA, kA)) (hkA : kA ≠ 0),
    Calls P f #[.slice (some ⟨b, 0, none⟩) n c, .int .i64 i, .slice (some ⟨vb, voff, none⟩) m vc] w fun e w' =>
      e = .returned (.slice (some ⟨b, 0, none⟩) (n + m) c) ∧ w' = w.drew.setRow b (R.take (i * sz) ++ V ++ (R.drop (i * sz)).take ((n - i) * sz) ++ R.drop ((n + m) * sz)).toArray
  stop : ∀ (base : Option Addr) (n c m vc : Nat) (va : Option Addr) (r : Value) (w w1 : World) (hm : 0 < m) (hnc : n ≤ c) (hc63 : n + m ≤ 4611686018427387904) (hnil : base = none → c = 0)
    (hrun : (Builtin.append_ #[S, S] S #[.slice base n c, .slice va m vc]).run P w = .ok r w1),
    Calls P f #[.slice base n c, .int .i64 n, .slice va m vc] w fun e w' => e = .returned r ∧ w' = w1
  grow : ∀ (b n c i vb voff m vc : Nat) (R V : List Value) (t0 : TypeId) (tA : TypeId) (kA : Nat) (w : World) (hi : i < n) (hm : 0 < m) (hnc : n ≤ c) (hroom : c < n + m) (hbig : (n + m) * by' ≤ 140737488355328) (hvb : vb < w.heap.size)
    (hrow : w.heap[b]? = some (.cells R.toArray t0 (0, 0))) (hR : c * sz ≤ R.length) (hone : ∀ v ∈ R.take (n * sz), v.oneCell' = true) (hVl : V.length = m * sz) (hV : ∀ j v, V[j]? = some v → w.cell? ⟨vb, voff + j, none⟩ = some v) (h1v : ∀ v ∈ V, v.oneCell' = true),
    Calls P f #[.slice (some ⟨b, 0, none⟩) n c, .int .i64 i, .slice (some ⟨vb, voff, none⟩) m vc] w fun e' w' =>
      ∃ G Z, n + m ≤ G ∧ e' = .returned (.slice (some ⟨w.heap.size, 0, none⟩) (n + m) G) ∧ Z.length + (n + m) * sz = G * sz ∧ w' = w.drew.drew.alloc (.cells (R.take (i * sz) ++ V ++ (R.drop (i * sz)).take ((n - i) * sz) ++ Z : List Value).toArray e)
theorem shape_of_cell {w : World} {b o : Nat} {v : Value} (h : w.cell? ⟨b, o, none⟩ = some v) : ∃ t k, w.shape? b = some (t, k) ∧ k ≠ 0 ∧ b < w.heap.size := by
  unfold World.cell? at h
  unfold World.shape?
  split at h
  · rename_i c t f hq
    simp only [hq]
    refine ⟨t, c.size, rfl, ?_, (Array.getElem?_eq_some_iff.1 hq).1⟩
    have := (Array.getElem?_eq_some_iff.1 h).1
    omega
  · cases h
section
variable {α : Type} [Enc α]
theorem Enc.ins (l r : List α) (k : Nat) : (Enc.cellsL l).take (k * Enc.sz α) ++ Enc.cellsL r ++ (Enc.cellsL l).drop (k * Enc.sz α) = Enc.cellsL (l.take k ++ r ++ l.drop k) := by
  rw [Enc.take, Enc.drop, Enc.app, Enc.app]
theorem ins_snd {P : Program} {f : FuncId} {S e : TypeId} {i0 : TypeInfo} {z : Value} {by' : Nat} (he : Ent P f) (hu : P.underlying S = some (.slice e)) (hi : P.info? e = some i0) (hz : i0.zero = some z) (hsz : i0.size = Enc.sz α) (hzc : z.cells.size = Enc.sz α) (hby : i0.bytes = by') (h0by : 0 < by')
    (law : InsLaw P f S e (Enc.sz α) by') (l r : List α) (k : Nat) (σ : St) (s : Nat) (st : Room) (hb : σ.boxes[s]? = some (e, Enc.cellsL l)) (hl : 0 < l.length) (hr : 0 < r.length) (hk : k ≤ l.length) (hbig : (l.length + r.length) * by' ≤ 140737488355328) :
    Snd (ITP P) P f [.bsl s 0 l.length (Enc.sz α) false, .raw (.int .i64 (k : Int)), .list r.length (Enc.cellsL r) st] σ (.bsl σ.boxes.length 0 (l.length + r.length) (Enc.sz α) false)
      { σ with boxes := σ.boxes.set s (e, []) ++ [(e, Enc.cellsL (l.take k ++ r ++ l.drop k))] } := by
  refine ⟨he, fun X vs hI hrr => ?_⟩
  have hIT := itp_mono P
  obtain ⟨v0, q, rfl, hv0, v1, q1, rfl, hv1, v2, q2, rfl, hv2, hq⟩ := hrr
  rw [RepL] at hq
  subst hq
  have hv1 : v1 = .int .i64 (k : Int) := hv1
  subst hv1
  have hv0' := hv0
  have hv2' := hv2
  have hv0 : Bsl X s 0 l.length (Enc.sz α) false v0 := hv0
  rw [Rep] at hv2
  obtain ⟨b, c, cur, t1, hκ, rfl, hcap, _, hrow, hfit⟩ := hv0
  obtain ⟨ad, vc, rfl, ⟨hvc, _⟩, hat, _⟩ := hv2
  have hp := Enc.pos (α := α)
  have hrl := Enc.lenL r
  have hne2 : Enc.cellsL r ≠ [] := fun h0 => by
    have := congrArg List.length h0
    have h1 := Nat.mul_pos hr hp
    rw [hrl] at this; simp at this; omega
  obtain ⟨vb, vo, rfl, hAt⟩ := hat.resolve_left hne2
  have hatc := at_cells hAt
  obtain ⟨V, u1, u2, u3⟩ := hatc
  have hVl : V.length = r.length * Enc.sz α := by rw [← repL_length u1, hrl]
  obtain ⟨us, zs, k1, k2, k3⟩ := hI.box s b e _ hκ hb
  have hal := repL_length k2
  rw [Enc.lenL] at hal
  rw [k1] at hrow
  simp only [Option.some.injEq, Obj.cells.injEq, and_true] at hrow
  obtain ⟨rfl, rfl⟩ := hrow
  have hne : Enc.cellsL l ≠ [] := fun h0 => by
    have := congrArg List.length h0
    have h1 := Nat.mul_pos hl hp
    rw [Enc.lenL] at this; simp at this; omega
  have hnf := hI.κF s b e _ hκ hb hne
  have hV0 : ∃ v, V[0]? = some v := by
    have h1 := Nat.mul_pos hr hp
    exact ⟨V[0]'(by omega), List.getElem?_eq_getElem (by omega)⟩
  obtain ⟨vv, hvv⟩ := hV0
  obtain ⟨tA, kA, hsh, hkA, hvbl⟩ := shape_of_cell (u3 0 vv hvv)
  have hvb : vb ≠ b := by
    intro h0
    have hF : X.F vb vo := by
      cases hcr : Enc.cellsL r with
      | nil => exact absurd hcr hne2
      | cons a t => rw [hcr] at hAt; exact hAt.1.1
    exact hnf vo (h0 ▸ hF)
  have hfit' : c * Enc.sz α ≤ (us ++ zs).length := by simpa using hfit
  have hone : ∀ v ∈ (us ++ zs).take (l.length * Enc.sz α), v.oneCell' = true := fun v hv => by
    rw [List.take_append_of_le_length (by omega), List.take_of_length_le (by omega)] at hv
    exact k3 v hv
  have hVc : ∀ j v, V[j]? = some v → X.w.cell? ⟨vb, vo + j, none⟩ = some v := fun j v hj => u3 j v hj
  have hnm : l.length + r.length ≤ 4611686018427387904 := by
    have := Nat.le_mul_of_pos_right (l.length + r.length) h0by
    omega
  have hcut : (us ++ zs).take (k * Enc.sz α) = us.take (k * Enc.sz α) := List.take_append_of_le_length (by have := Nat.mul_le_mul_right (Enc.sz α) hk; omega)
  have hksz := Nat.mul_le_mul_right (Enc.sz α) hk
  have hmid : ((us ++ zs).drop (k * Enc.sz α)).take ((l.length - k) * Enc.sz α) = us.drop (k * Enc.sz α) := by
    rw [List.drop_append_of_le_length (by omega), List.take_append_of_le_length (by rw [List.length_drop, Nat.sub_mul]; omega), List.take_of_length_le (by rw [List.length_drop, Nat.sub_mul]; omega)]
  have hrep : RepL (ITP P) X (Enc.cellsL (l.take k ++ r ++ l.drop k)) (us.take (k * Enc.sz α) ++ V ++ us.drop (k * Enc.sz α)) := by
    rw [← Enc.ins]
    exact repL_append (repL_append (repL_take k2 _) u1) (repL_drop k2 _)
  have hones : ∀ v ∈ us.take (k * Enc.sz α) ++ V ++ us.drop (k * Enc.sz α), v.oneCell' = true := fun v hv => by
    simp only [List.mem_append] at hv
    rcases hv with (hv | hv) | hv
    · exact k3 v (List.mem_of_mem_take hv)
    · exact u2 v hv
    · exact k3 v (List.mem_of_mem_drop hv)
  have hinsl : (us.take (k * Enc.sz α) ++ V ++ us.drop (k * Enc.sz α)).length = (l.length + r.length) * Enc.sz α := by
    simp only [List.length_append, List.length_take, List.length_drop, Nat.add_mul]; omega
  rcases Nat.lt_or_ge k l.length with hlt | hge
  · by_cases hroom : l.length + r.length ≤ c
    · refine (law.room b l.length c k vb vo r.length vc (us ++ zs) V e tA kA X.w hlt hr hroom hnm hvb k1 hfit' hone hVl hVc u2 hsh hkA).mono ?_
      rintro e' w' ⟨rfl, rfl⟩
      rw [hcut, hmid]
      obtain ⟨d1, d2⟩ := inv_drew hIT hI
      have k1' : X.w.drew.heap[b]? = some (.cells (us ++ zs).toArray e (0, 0)) := k1
      obtain ⟨Z, hZ⟩ : ∃ Z, Z = (us ++ zs).drop ((l.length + r.length) * Enc.sz α) := ⟨_, rfl⟩
      rw [← hZ]
      have hszs : (us.take (k * Enc.sz α) ++ V ++ us.drop (k * Enc.sz α) ++ Z).length = (us ++ zs).length := by
        have := Nat.mul_le_mul_right (Enc.sz α) hroom
        rw [List.length_append, hinsl, hZ, List.length_drop]; omega
      have hdead : ∀ s' : Nat, X.κ[s']? = some b → s' ≠ s → ∃ t2, σ.boxes[s']? = some (t2, []) := fun s' h2 h3 => by
        rcases hI.κnd s' s b h2 hκ h3 with h4 | ⟨t2, h5⟩
        · exact h4
        · rw [hb] at h5; exact absurd (congrArg Prod.snd (Option.some.inj h5)) hne
      obtain ⟨e1, e2⟩ := inv_set hIT d2 (cs' := []) (vs' := []) (zs := us.take (k * Enc.sz α) ++ V ++ us.drop (k * Enc.sz α) ++ Z) hκ hb hne (fun cur t f hc => by rw [k1'] at hc; cases hc; rw [List.nil_append, hszs]; simp) (by rw [RepL]) (by simp)
      rw [List.nil_append] at e1 e2
      have hs' : s < σ.boxes.length := (List.getElem?_eq_some_iff.1 hb).1
      obtain ⟨X', x1, x2, x3, x4⟩ := inv_adopt hIT e2 (s := s) (b := b) (t := e) (cs := Enc.cellsL (l.take k ++ r ++ l.drop k)) (vs := us.take (k * Enc.sz α) ++ V ++ us.drop (k * Enc.sz α)) (zs := Z) hκ (fun s' h2 => by
          show ∃ t2, (σ.boxes.set s (e, []))[s']? = some (t2, [])
          by_cases e0 : s = s'
          · subst e0; exact ⟨e, by rw [List.getElem?_set_self hs']⟩
          · rw [List.getElem?_set_ne e0]; exact hdead s' h2 (Ne.symm e0)) (setRow_heap _ _ _ _ _ _ k1')
        (repL_mono hIT (d1.trans e1) _ _ hrep) hones hnf
      refine ⟨_, X', rfl, x1, d1.trans (e1.trans x2), x3, ?_⟩
      have hx4 : X'.κ[σ.boxes.length]? = some b := by simpa using x4
      show Bsl X' _ _ _ _ _ _
      refine ⟨b, c, (us.take (k * Enc.sz α) ++ V ++ us.drop (k * Enc.sz α) ++ Z).toArray, e, hx4, rfl, hroom, (fun h => by cases h), by rw [x1]; exact setRow_heap _ _ _ _ _ _ k1', ?_⟩
      rw [List.size_toArray, hszs]; omega
    · refine (law.grow b l.length c k vb vo r.length vc (us ++ zs) V e tA kA X.w hlt hr hcap (by omega) hbig hvbl k1 hfit' hone hVl hVc u2).mono ?_
      rintro e' w' ⟨G, Z, g1, rfl, g2, rfl⟩
      rw [hcut, hmid]
      have hK := inv_kill hI hb
      obtain ⟨d1, d2⟩ := inv_drew hIT hK
      obtain ⟨d3, d4⟩ := inv_drew hIT d2
      obtain ⟨X', x1, x2, x3, x4⟩ := inv_box' hIT d4 (t := e) Z (repL_mono hIT (d1.trans d3) _ _ hrep) hones
      refine ⟨_, X', rfl, x1, d1.trans (d3.trans x2), by simpa using x3, ?_⟩
      obtain ⟨b', hb1, hb2⟩ : ∃ b', X'.κ[(σ.boxes.set s (e, [])).length]? = some b' ∧ Value.pointer (some ⟨X.w.heap.size, 0, none⟩) = .pointer (some ⟨b', 0, none⟩) := x4
      have hb3 : b' = X.w.heap.size := by simp at hb2; exact hb2.symm
      subst hb3
      show Bsl X' _ _ _ _ _ _
      refine ⟨_, _, _, e, by simpa using hb1, rfl, g1, (fun h => by cases h), by rw [x1]; exact heap_new _ _ _ rfl, ?_⟩
      rw [List.size_toArray, List.length_append, hinsl]; omega
  · obtain rfl : k = l.length := by omega
    have hsrc : aSrc P σ i0.size S S (.list r.length (Enc.cellsL r) st) = some (r.length, Enc.cellsL r) := aSrc_list ⟨rfl, by rw [Enc.lenL, hsz], by omega⟩
    have hmax : l.length + r.length ≤ maxLen := by
      have h6 : 140737488355328 ≤ maxLen := by decide
      have := Nat.le_mul_of_pos_right (l.length + r.length) h0by
      omega
    have key : aAppB P σ S S (.bsl s 0 l.length (Enc.sz α) false) (.list r.length (Enc.cellsL r) st) = some (.bsl σ.boxes.length 0 (l.length + r.length) (Enc.sz α) false, { σ with boxes := σ.boxes.set s (e, []) ++ [(e, Enc.cellsL (l ++ r))] }) := by
      rw [aAppB]
      simp only [hu, hi, hz, hsrc, hb, Bool.false_eq_true, if_false, Enc.app]
      rw [if_pos ⟨by omega, by omega, hr⟩, if_pos ⟨hsz.symm, hmax, by rw [hby]; exact hbig, by rw [Enc.lenL]; omega⟩, if_pos ⟨trivial, by rw [Enc.lenL], trivial, hl⟩]
    obtain ⟨rr, X', a1, a2, a3, a4⟩ := aAppB_sound hIT (ty := S) key hv0' hv2' hI
    rw [List.take_of_length_le (Nat.le_refl _), List.drop_of_length_le (Nat.le_refl _), List.append_nil]
    refine (law.stop (some ⟨b, 0, none⟩) l.length c r.length vc (some ⟨vb, vo, none⟩) rr X.w X'.w hr hcap hnm (fun h => by cases h) a1).mono ?_
    rintro e' w' ⟨rfl, rfl⟩
    exact ⟨_, X', rfl, rfl, a2, a3, a4⟩
theorem ins_nil {P : Program} {f : FuncId} {S e : TypeId} {i0 : TypeInfo} {z : Value} {by' : Nat} (he : Ent P f) (hu : P.underlying S = some (.slice e)) (hi : P.info? e = some i0) (hz : i0.zero = some z) (hsz : i0.size = Enc.sz α) (hzc : z.cells.size = Enc.sz α) (hby : i0.bytes = by') (h0by : 0 < by')
    (law : InsLaw P f S e (Enc.sz α) by') (r : List α) (σ : St) (st : Room) (hr : 0 < r.length) (hbig : r.length * by' ≤ 140737488355328) :
    Snd (ITP P) P f [.list 0 [] .full, .raw (.int .i64 0), .list r.length (Enc.cellsL r) st] σ (.bsl σ.boxes.length 0 r.length (Enc.sz α) false) { σ with boxes := σ.boxes ++ [(e, Enc.cellsL r)] } := by
  refine ⟨he, fun X vs hI hrr => ?_⟩
  have hIT := itp_mono P
  obtain ⟨v0, q, rfl, hv0, v1, q1, rfl, hv1, v2, q2, rfl, hv2, hq⟩ := hrr
  rw [RepL] at hq
  subst hq
  have hv1 : v1 = .int .i64 0 := hv1
  subst hv1
  have hv0' := hv0
  have hv2' := hv2
  rw [Rep] at hv0 hv2
  obtain ⟨a0, c0, rfl, ⟨_, hnil⟩, _, hc0⟩ := hv0
  have hc0 : c0 = 0 := hc0
  subst hc0
  obtain ⟨ad, vc, rfl, ⟨hvc, _⟩, hat, _⟩ := hv2
  have hp := Enc.pos (α := α)
  have hsrc : aSrc P σ i0.size S S (.list r.length (Enc.cellsL r) st) = some (r.length, Enc.cellsL r) := aSrc_list ⟨rfl, by rw [Enc.lenL, hsz], by omega⟩
  have hle := Nat.le_mul_of_pos_right r.length h0by
  have hmax : 0 + r.length ≤ maxLen := by
    have h6 : 140737488355328 ≤ maxLen := by decide
    omega
  have key : aAppB P σ S S (.list 0 [] .full) (.list r.length (Enc.cellsL r) st) = some (.bsl σ.boxes.length 0 (0 + r.length) i0.size false, { σ with boxes := σ.boxes ++ [(e, [] ++ Enc.cellsL r)] }) := by
    rw [aAppB]
    simp only [hu, hi, hz, hsrc]
    rw [if_pos ⟨by omega, by omega, hr⟩, if_pos ⟨by simp, hmax, by rw [Nat.zero_add, hby]; exact hbig⟩]
  obtain ⟨rr, X', a1, a2, a3, a4⟩ := aAppB_sound hIT (ty := S) key hv0' hv2' hI
  rw [Nat.zero_add, hsz] at a4
  refine (law.stop a0 0 0 r.length vc ad rr X.w X'.w hr (Nat.le_refl _) (by omega) (fun _ => rfl) a1).mono ?_
  rintro e' w' ⟨rfl, rfl⟩
  exact ⟨_, X', rfl, rfl, a2, a3, a4⟩
end
section
variable {IT : IterP} {P : Program} {W : Owed} {k0 : Nat}
end
end Go.Ab

