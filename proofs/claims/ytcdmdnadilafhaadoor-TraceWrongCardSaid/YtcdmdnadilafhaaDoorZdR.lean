/-
  A contract without boxes before, in any state.
-/
import Derived.Test.YtcdmdnadilafhaaDoorZdQ
set_option linter.unusedSimpArgs false
set_option linter.unusedVariables false
namespace Go.Ab
open Go Go.RowKit Go.Fwd
section
variable {IT : IterP} {P : Program} {W : Owed} {k0 : Nat}
theorem aSrc_list {σ : St} {sz m : Nat} {t tx : TypeId} {ds : List AV} {st : Room} (h : t = tx ∧ ds.length = m * sz ∧ 0 < sz) : aSrc P σ sz t tx (.list m ds st) = some (m, ds) := by simp only [aSrc, if_pos h]
theorem opB_list {ρ : Operand → AV} {σ : St} {o : Oper} {c : Call} {x y : Operand} {t tx e : TypeId} {i : TypeInfo} {z : Value} {n m sz : Nat} {cs ds : List AV} (ho : o.op = .call c) (hc : c.callee = .builtin .append) (ha : c.args.toList = [x, y]) (ht : c.argTypes.toList = [t, tx])
    (hx : ρ x = .list n cs .full) (hu : P.underlying t = some (.slice e)) (hi : P.info? e = some i) (hz : i.zero = some z) (hsz : i.size = sz) (hs : aSrc P σ sz t tx (ρ y) = some (m, ds)) (h1 : 0 < sz ∧ z.cells.size = sz ∧ 0 < m) (h2 : cs.length = n * sz ∧ n + m ≤ maxLen ∧ (n + m) * i.bytes ≤ 140737488355328) :
    aopB P ρ σ o = some (.bsl σ.boxes.length 0 (n + m) sz false, { σ with boxes := σ.boxes ++ [(e, cs ++ ds)] }) := by
  subst hsz
  have hnn : isNilS (ρ x) = false := by rw [hx]; rfl
  have hnn2 : isNilS (.list n cs .full) = false := rfl
  simp only [aopB, ho, hc, ha, ht, hnn, hnn2, Bool.false_eq_true, if_false, aAppB, hu, hi, hz, hs, if_pos h1, hx, if_pos h2]
end
def shz (n : Nat) : FZ := (fun s off => .ptr (n + s) off, fun s off k sz => .bsl (n + s) off k sz false)
def shBoxes (n : Nat) (bs : List (TypeId × List AV)) : List (TypeId × List AV) := bs.map fun b => (b.1, mapKL 0 (shz n) b.2)
theorem snd_lift {IT : IterP} (hIT : ITMono IT) {P : Program} {f : FuncId} {args args' : List AV} {r : AV} {bs : List (TypeId × List AV)} (h : Snd IT P f args' St.empty r ⟨bs, [], [], 0, false⟩) (hargs : stripL args = args') (hok : okTrimL 0 args = true) (σ : St) :
    Snd IT P f args σ (mapK 0 (shz σ.boxes.length) r) { σ with boxes := σ.boxes ++ shBoxes σ.boxes.length bs } := by
  refine ⟨h.1, fun X vs hI hr => ?_⟩
  subst hargs
  have h0 : RepL IT ⟨X.F, [], [], [], X.w, fun _ => False, fun _ _ => False⟩ (stripL args) vs := repL_strip (X := X) (Y := ⟨X.F, [], [], [], X.w, fun _ => False, fun _ _ => False⟩) hIT rfl rfl args vs (.inl hok) hr
  refine (h.2 ⟨X.F, [], [], [], X.w, fun _ => False, fun _ _ => False⟩ vs (inv_empty hI) h0).mono ?_
  rintro e w' ⟨v, Y, rfl, rfl, hE, hIY, hv⟩
  have hκl : Y.κ.length = bs.length := hIY.κlen
  have hXl := hI.κlen
  have hl : Y.lens = [] := hIY.lens
  have hnew : ∀ b ∈ Y.κ, X.w.heap.size ≤ b := fun b hb => by
    rcases hE.κnew b hb with h | h
    · simp at h
    · exact h
  have hblk : ∀ b, b < X.w.heap.size → Y.w.heap[b]? = X.w.heap[b]? := fun b hb => hE.frame b hb (by simp) (by simp)
  have hFn : ∀ b i, Y.F b i → X.F b i ∨ X.w.heap.size ≤ b := fun b i hf => by
    rcases hE.Fnew b i hf with h | h | ⟨q, hq, _⟩ | h
    · exact .inl h
    · exact .inr h
    · simp at hq
    · simp at h
  have hX : Ext X ⟨Y.F, X.κ ++ Y.κ, X.β, X.lens, Y.w, X.O, X.C⟩ := {
    os := hE.os, tape := hE.tape, output := hE.output, size := hE.size, drawn := hE.drawn, F := hE.F, cell := hE.cell
    κ := fun s b hs => by
      show (X.κ ++ Y.κ)[s]? = some b
      rw [List.getElem?_append_left (List.getElem?_eq_some_iff.1 hs).1]; exact hs
    lens := fun s L h => ⟨L, h, Nat.le_refl _, fun _ => rfl⟩
    blk := fun s b hs cur t f h => ⟨cur, (hblk b (hI.κlt (List.mem_of_getElem? hs))).trans h, rfl⟩
    szs := Szs.old hblk
    frame := fun b hb _ _ => hblk b hb
    κnew := fun b hb => by
      rcases List.mem_append.1 hb with hb | hb
      · exact .inl hb
      · exact .inr (hnew b hb)
    βnew := fun r h => .inl ⟨r, h, rfl⟩
    O := rfl
    C := rfl
    Fnew := fun b i hf => (hFn b i hf).imp id .inl }
  have hnk : ∀ s b, Y.κ[s]? = some b → (X.κ ++ Y.κ)[σ.boxes.length + s]? = some b := fun s b hs => by
    rw [List.getElem?_append_right (by omega), show σ.boxes.length + s - X.κ.length = s by omega]; exact hs
  have hg : (∀ s off v, Rep IT Y (.ptr s off) v → Rep IT ⟨Y.F, X.κ ++ Y.κ, X.β, X.lens, Y.w, X.O, X.C⟩ ((shz σ.boxes.length).1 s off) v) ∧
      ∀ s off n sz f v, Rep IT Y (.bsl s off n sz f) v → Rep IT ⟨Y.F, X.κ ++ Y.κ, X.β, X.lens, Y.w, X.O, X.C⟩ ((shz σ.boxes.length).2 s off n sz) v := by
    refine ⟨?_, ?_⟩
    · rintro s off v ⟨b, hb, rfl⟩
      exact ⟨b, hnk s b hb, rfl⟩
    · rintro s off n sz f v ⟨b, cap, cur, t, hb, rfl, hcap, hful, hrow⟩
      exact ⟨b, cap, cur, t, hnk s b hb, rfl, hcap, (fun h => by cases h), hrow⟩
  have hrep := rep_mapK (X := Y) (Y := ⟨Y.F, X.κ ++ Y.κ, X.β, X.lens, Y.w, X.O, X.C⟩) (m := 0) hIT (fun _ _ h => h) rfl (fun s hs => by omega) hg
  have hrepL := repL_mapK (X := Y) (Y := ⟨Y.F, X.κ ++ Y.κ, X.β, X.lens, Y.w, X.O, X.C⟩) (m := 0) hIT (fun _ _ h => h) rfl (fun s hs => by omega) hg
  refine ⟨v, ⟨Y.F, X.κ ++ Y.κ, X.β, X.lens, Y.w, X.O, X.C⟩, rfl, rfl, hX, ?_, hrep r v hv⟩
  have old : ∀ (s b : Nat), (X.κ ++ Y.κ)[s]? = some b → (X.κ[s]? = some b ∧ s < σ.boxes.length) ∨ (σ.boxes.length ≤ s ∧ Y.κ[s - σ.boxes.length]? = some b) := fun s b h => by
    rcases Nat.lt_or_ge s X.κ.length with hlt | hge
    · rw [List.getElem?_append_left hlt] at h; exact .inl ⟨h, by omega⟩
    · rw [List.getElem?_append_right hge, hXl] at h; exact .inr ⟨by omega, h⟩
  have upO : ∀ s : Nat, s < σ.boxes.length → (∃ t : TypeId, σ.boxes[s]? = some (t, [])) → ∃ t : TypeId, (σ.boxes ++ shBoxes σ.boxes.length bs)[s]? = some (t, []) := fun s hs ⟨t, h⟩ => ⟨t, by rw [List.getElem?_append_left hs]; exact h⟩
  have upN : ∀ s : Nat, σ.boxes.length ≤ s → (∃ t : TypeId, bs[s - σ.boxes.length]? = some (t, [])) → ∃ t : TypeId, (σ.boxes ++ shBoxes σ.boxes.length bs)[s]? = some (t, []) := fun s hs ⟨t, h⟩ => ⟨t, by
    rw [List.getElem?_append_right hs, shBoxes, List.getElem?_map, h]; simp [mapKL]⟩
  refine { lens := hI.lens, elems := hI.elems, κlen := ?_, κnd := ?_, box := ?_, κF := ?_, βlen := hI.βlen, βnd := hI.βnd, βκ := ?_, row := ?_, Ok := ?_, Fcell := hIY.Fcell }
  · show (X.κ ++ Y.κ).length = (σ.boxes ++ shBoxes σ.boxes.length bs).length
    simp [shBoxes]; omega
  · intro s s' b k1 k2 hne
    rcases old s b k1 with ⟨a1, b1⟩ | ⟨a1, b1⟩ <;> rcases old s' b k2 with ⟨a2, b2⟩ | ⟨a2, b2⟩
    · exact (hI.κnd s s' b a1 a2 hne).imp (upO s b1) (upO s' b2)
    · have := hI.κlt (List.mem_of_getElem? a1); have := hnew b (List.mem_of_getElem? b2); omega
    · have := hI.κlt (List.mem_of_getElem? a2); have := hnew b (List.mem_of_getElem? b1); omega
    · exact (hIY.κnd _ _ b b1 b2 (by omega)).imp (upN s a1) (upN s' a2)
  · intro s b t cs hs hb
    have hb : (σ.boxes ++ shBoxes σ.boxes.length bs)[s]? = some (t, cs) := hb
    rcases old s b hs with ⟨a1, b1⟩ | ⟨a1, b1⟩
    · rw [List.getElem?_append_left b1] at hb
      obtain ⟨us, zs, u1, u2, u3⟩ := hI.box s b t cs a1 hb
      exact ⟨us, zs, (hblk b (hI.κlt (List.mem_of_getElem? a1))).trans u1, repL_mono hIT hX _ _ u2, u3⟩
    · rw [List.getElem?_append_right a1, shBoxes, List.getElem?_map] at hb
      cases hbs : bs[s - σ.boxes.length]? with
      | none => rw [hbs] at hb; cases hb
      | some bx =>
        rw [hbs] at hb
        simp only [Option.map_some, Option.some.injEq, Prod.mk.injEq] at hb
        obtain ⟨rfl, rfl⟩ := hb
        obtain ⟨us, zs, u1, u2, u3⟩ := hIY.box _ b bx.1 bx.2 b1 hbs
        exact ⟨us, zs, u1, hrepL _ _ u2, u3⟩
  · intro s b t cs hs hb hne o hf
    have hb : (σ.boxes ++ shBoxes σ.boxes.length bs)[s]? = some (t, cs) := hb
    rcases old s b hs with ⟨a1, b1⟩ | ⟨a1, b1⟩
    · rw [List.getElem?_append_left b1] at hb
      rcases hFn b o hf with h | h
      · exact hI.κF s b t cs a1 hb hne o h
      · have := hI.κlt (List.mem_of_getElem? a1); omega
    · rw [List.getElem?_append_right a1, shBoxes, List.getElem?_map] at hb
      cases hbs : bs[s - σ.boxes.length]? with
      | none => rw [hbs] at hb; cases hb
      | some bx =>
        rw [hbs] at hb
        simp only [Option.map_some, Option.some.injEq, Prod.mk.injEq] at hb
        obtain ⟨rfl, rfl⟩ := hb
        refine hIY.κF _ b bx.1 bx.2 b1 hbs (fun e => hne ?_) o hf
        rw [e, mapKL]
  · intro r hr' hm
    rcases List.mem_append.1 hm with hm | hm
    · exact hI.βκ r hr' hm
    · have := hI.βlt hr'; have := hnew _ hm; omega
  · intro s q L hq hL
    obtain ⟨cur, fz, c1, c2, c3, c4, c5, c6, c7⟩ := hI.row s q L hq hL
    have hlt := hI.βlt (List.mem_of_getElem? hq)
    refine ⟨cur, fz, (hblk _ hlt).trans c1, c2, c3, c4, c5, fun o hf => ?_, c7⟩
    rcases hFn _ o hf with h | h
    · exact c6 o h
    · omega
  · intro b ho
    obtain ⟨⟨cs0, t0, f0, h0⟩, h2, h3, h4⟩ := hI.Ok b ho
    have hlt := hI.Olt ho
    refine ⟨⟨cs0, t0, f0, (hblk b hlt).trans h0⟩, fun hm => ?_, h3, fun o hf => (hFn b o hf).elim (h4 o) fun h => by omega⟩
    rcases List.mem_append.1 hm with hm | hm
    · exact h2 hm
    · have := hnew _ hm; omega
end Go.Ab
namespace Go.Ab
open Go Go.RowKit Go.Fwd
def ownAV (n : Nat) (cs : List AV) : AV := if n = 0 then .list 0 [] .full else .list n cs (.own 0)
def ownSt (bs : List (TypeId × List AV)) (e n sz : Nat) : St := ⟨bs, if n = 0 then [] else [n * sz], if n = 0 then [] else [e], 0, false⟩
theorem append_own {P : Program} {t e : TypeId} {i : TypeInfo} {z : Value} {n m sz : Nat} {cs ds : List AV} {st : Room} {bs : List (TypeId × List AV)} (hu : P.underlying t = some (.slice e)) (hi : P.info? e = some i) (hz : i.zero = some z) (hsz : i.size = sz) (hzs : z.cells.size = sz) (h0 : 0 < sz)
    (hcs : cs.length = n * sz) (hds : ds.length = m * sz) (hmax : n + m ≤ maxLen) (hb : (n + m) * i.bytes ≤ 140737488355328) :
    aAppend P (ownSt bs e n sz) t (ownAV n cs) (.list m ds st) = some (ownAV (n + m) (cs ++ ds), ownSt bs e (n + m) sz) := by
  subst hsz
  rcases Nat.eq_zero_or_pos m with rfl | hm
  · have hd : ds = [] := List.length_eq_zero_iff.1 (by omega)
    subst hd
    rcases Nat.eq_zero_or_pos n with rfl | hn
    · have hc : cs = [] := List.length_eq_zero_iff.1 (by omega)
      subst hc
      simp [aAppend, ownAV, ownSt, hu, hi, hz]
    · have hn' : n ≠ 0 := by omega
      simp [aAppend, ownAV, ownSt, hu, hi, hz, hn']
  · have hm' : m ≠ 0 := by omega
    have hnm : n + m ≠ 0 := by omega
    rcases Nat.eq_zero_or_pos n with rfl | hn
    · have hc : cs = [] := List.length_eq_zero_iff.1 (by omega)
      subst hc
      simp only [Nat.zero_add] at hmax hb
      simp [aAppend, ownAV, ownSt, hu, hi, hz, hm', hds, hm, hzs, h0, hmax, hb]
    · have hn' : n ≠ 0 := by omega
      simp [aAppend, ownAV, ownSt, hu, hi, hz, hm', hn', hds, hcs, hm, hzs, h0, hmax, hb, hn]
theorem op_append {P : Program} {ρ : Operand → AV} {σ σ' : St} {o : Oper} {c : Call} {x y : Operand} {t : TypeId} {a : AV} (ho : o.op = .call c) (hc : c.callee = .builtin .append) (ha : c.args.toList = [x, y]) (ht : c.argTypes.toList = [t, t]) (h : aAppend P σ t (ρ x) (ρ y) = some (a, σ')) : aop P ρ σ o = some (a, σ') := by
  simp [aop, qop, ho, hc, ha, ht, h]
theorem strip_own {n : Nat} {cs : List AV} (hc : cloL cs = true) (h : n = 0 → cs = []) : strip (ownAV n cs) = .list n cs .none := by
  unfold ownAV
  split
  · rename_i h0; rw [h h0, h0]; rfl
  · rw [strip, stripL_clo cs hc]
theorem okTrim_own {k n : Nat} {cs : List AV} (hc : cloL cs = true) : okTrim k (ownAV n cs) = true := by
  unfold ownAV
  split
  · rfl
  · rw [okTrim, okTrimL_clo k cs hc]
end Go.Ab

