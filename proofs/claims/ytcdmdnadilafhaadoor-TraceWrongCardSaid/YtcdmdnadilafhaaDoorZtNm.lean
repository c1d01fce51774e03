/-
  trace: the names of ends.
-/
import Derived.Test.YtcdmdnadilafhaaDoorZtK
set_option linter.unusedSimpArgs false
set_option linter.unusedVariables false
namespace Go.Ab
open Go Go.RowKit Go.Fwd Go.Proofs
theorem inv_refz {IT : IterP} (hIT : ITMono IT) {σ : St} {X : Cx} (hI : Inv IT σ X) {s : Nat} {r : Row} {L : Nat} {cur : Array Value} {fz fz' : Nat × Nat} {W : World} (hs : X.β[s]? = some r) (hL : X.lens[s]? = some L)
    (hcur : X.w.heap[r.block]? = some (.cells cur r.elem fz)) (hle : fz'.2 ≤ L) (h1 : W.os = X.w.os) (h2 : W.tape = X.w.tape) (h3 : W.output = X.w.output) (h4 : W.heap.size = X.w.heap.size)
    (h5 : ∀ b, b ≠ r.block → W.heap[b]? = X.w.heap[b]?) (h6 : W.heap[r.block]? = some (.cells cur r.elem fz')) : Ext X { X with w := W } ∧ Inv IT σ { X with w := W } := by
  have hrm := List.mem_of_getElem? hs
  have hcell : ∀ b o, W.cell? ⟨b, o, none⟩ = X.w.cell? ⟨b, o, none⟩ := fun b o => by
    by_cases e : b = r.block
    · subst e; simp [World.cell?, h6, hcur]
    · simp [World.cell?, h5 b e]
  have hE : Ext X { X with w := W } := {
    os := h1, tape := h2, output := h3, size := by show _ ≤ W.heap.size; omega
    drawn := Nat.le_refl _
    F := fun _ _ h => h
    cell := fun b i _ => hcell b i
    κ := fun _ _ h => h
    lens := fun s L h => ⟨L, h, Nat.le_refl _, fun _ => rfl⟩
    blk := fun s' b hs' cu t f h => ⟨cu, (h5 b (fun e => hI.βκ r hrm (e ▸ List.mem_of_getElem? hs'))).trans h, rfl⟩
    szs := Szs.one r.block (fun k _ e => h5 k e) fun cs t f h => by rw [hcur] at h; cases h; exact ⟨_, _, _, h6, rfl⟩
    frame := fun b _ _ hβ => h5 b fun e => hβ r hrm e.symm
    κnew := fun _ h => .inl h
    βnew := fun q h => .inl ⟨q, h, rfl⟩
    O := rfl
    C := rfl
    Fnew := fun b i h => .inl h }
  have hother : ∀ (s' : Nat) (q : Row), X.β[s']? = some q → s' ≠ s → q.block ≠ r.block := fun s' q hq hne e => hne (by
    have h1 := (List.getElem?_eq_some_iff.1 hq).1
    have h2 := (List.getElem?_eq_some_iff.1 hs).1
    have e1 : (X.β.map (·.block))[s']'(by simpa using h1) = q.block := by simp [(List.getElem?_eq_some_iff.1 hq).2]
    have e2 : (X.β.map (·.block))[s]'(by simpa using h2) = r.block := by simp [(List.getElem?_eq_some_iff.1 hs).2]
    exact (List.getElem_inj hI.βnd).1 (e1.trans (e.trans e2.symm)))
  refine ⟨hE, { lens := hI.lens, elems := hI.elems, κlen := hI.κlen, κnd := hI.κnd, box := ?_, κF := hI.κF, βlen := hI.βlen, βnd := hI.βnd, βκ := hI.βκ, row := ?_, Ok := ?_, Fcell := fun b o hf => ?_, gv := gv_ext hIT hE hI.gv }⟩
  · intro s' b t' c hs' hb
    obtain ⟨ws, zs', u1, u2, u3⟩ := hI.box s' b t' c hs' hb
    have hne : b ≠ r.block := fun e => hI.βκ r hrm (e ▸ List.mem_of_getElem? hs')
    exact ⟨ws, zs', (h5 b hne).trans u1, repL_mono hIT hE _ _ u2, u3⟩
  · intro s' q L' hq hL'
    by_cases e : s' = s
    · subst e
      have hq' : q = r := by have := hq; rw [hs] at this; exact (Option.some.inj this).symm
      have hLL : L' = L := by have := hL'; rw [hL] at this; exact (Option.some.inj this).symm
      subst hq'; subst hLL
      obtain ⟨cu, fz0, d1, d2, d3, d4, d5, d6, d7⟩ := hI.row s' q L' hs hL
      have hcc : cu = cur := by rw [hcur] at d1; cases d1; rfl
      subst hcc
      exact ⟨cu, fz', h6, d2, d3, d4, d5, d6, hle⟩
    · obtain ⟨cu, fz0, d1, d2, d3, d4, d5, d6, d7⟩ := hI.row s' q L' hq hL'
      exact ⟨cu, fz0, (h5 _ (hother s' q hq e)).trans d1, d2, d3, d4, d5, d6, d7⟩
  · intro b ho
    obtain ⟨⟨cs0, t0, f0, h0⟩, k2, k3, k4⟩ := hI.Ok b ho
    exact ⟨⟨cs0, t0, f0, (h5 b (Ne.symm (k3 r hrm))).trans h0⟩, k2, k3, k4⟩
  · obtain ⟨v, hv⟩ := hI.Fcell b o hf
    exact ⟨v, (hcell b o).trans hv⟩
def bytesOfA : List AV → Option (List UInt8)
  | [] => some []
  | .raw (.int .u8 i) :: l => if 0 ≤ i ∧ i < 256 then (bytesOfA l).map (UInt8.ofNat i.toNat :: ·) else none
  | _ => none
theorem bytesOfA_at {IT : IterP} {X : Cx} : ∀ {cs : List AV} {l : List UInt8} {b o : Nat}, bytesOfA cs = some l → At IT X cs b o → cs.length = l.length ∧ ∀ j x, l[j]? = some x → X.w.cell? ⟨b, o + j, none⟩ = some (.int .u8 (x.toNat : Int))
  | [], l, b, o, h, _ => by simp only [bytesOfA, Option.some.injEq] at h; subst h; exact ⟨rfl, fun j x h => by simp at h⟩
  | .raw (.int .u8 i) :: cs, l, b, o, h, ha => by
    rw [bytesOfA] at h
    split at h
    · rename_i hi
      obtain ⟨m, hm, rfl⟩ := Option.map_eq_some_iff.1 h
      rw [At] at ha
      obtain ⟨⟨_, v, hv, _, hr⟩, ht⟩ := ha
      obtain ⟨h1, h2⟩ := bytesOfA_at hm ht
      have hvi : v = .int .u8 i := hr
      subst hvi
      refine ⟨by simp [h1], fun j x hx => ?_⟩
      cases j with
      | zero =>
        simp only [List.getElem?_cons_zero, Option.some.injEq] at hx
        subst hx
        rw [Nat.add_zero, hv]
        have : ((UInt8.ofNat i.toNat).toNat : Int) = i := by
          rw [UInt8.toNat_ofNat']
          have : i.toNat % 2 ^ 8 = i.toNat := Nat.mod_eq_of_lt (by omega)
          rw [this]; omega
        rw [this]
      | succ j =>
        simp only [List.getElem?_cons_succ] at hx
        rw [show o + (j + 1) = o + 1 + j from by omega]
        exact h2 j x hx
    · cases h
theorem run_freeze_heap (w : World) (g n : Nat) (cur : Array Value) (t : TypeId) (fz : Nat × Nat) (hg : w.heap[g]? = some (.cells cur t fz)) (hfz : fz.2 ≤ n) : ∃ fz' : Nat × Nat, fz'.2 ≤ n ∧ (w.freeze ⟨g, 0, none⟩ n).heap[g]? = some (.cells cur t fz') ∧
    (∀ b, b ≠ g → (w.freeze ⟨g, 0, none⟩ n).heap[b]? = w.heap[b]?) ∧ (w.freeze ⟨g, 0, none⟩ n).os = w.os ∧ (w.freeze ⟨g, 0, none⟩ n).tape = w.tape ∧ (w.freeze ⟨g, 0, none⟩ n).output = w.output ∧ (w.freeze ⟨g, 0, none⟩ n).heap.size = w.heap.size := by
  unfold World.freeze
  by_cases h : n = 0
  · rw [if_pos h]; exact ⟨fz, hfz, hg, fun _ _ => rfl, rfl, rfl, rfl, rfl⟩
  · rw [if_neg h]
    obtain ⟨lo, hi⟩ := fz
    refine ⟨if lo == hi then (0, 0 + n) else (min lo 0, max hi (0 + n)), ?_, ?_, fun b hb => ?_, rfl, rfl, rfl, by simp⟩
    · split
      · simp
      · simp at hfz ⊢; omega
    · simp [Array.getElem?_modify, hg]
    · simp [Array.getElem?_modify, Ne.symm hb]
theorem setCell_row (w : World) (b : Nat) (cs : Array Value) (t : TypeId) (f : Nat × Nat) (v : Value) (h : w.heap[b]? = some (.cells cs t f)) : w.setCell ⟨b, 0, none⟩ v = w.setRow b (cs.setIfInBounds 0 v) := by
  unfold World.setCell World.setRow
  congr 1
  apply Array.ext_getElem?
  intro i
  rw [Array.getElem?_modify, Array.getElem?_modify]
  by_cases e : b = i
  · subst e; rw [if_pos rfl, if_pos rfl, h]; rfl
  · rw [if_neg e, if_neg e]
def bldS : CallS := fun f args σ =>
  match args with
  | [.ptr s 0] => match σ.boxes[s]? with
    | some (71, [c, x]) =>
      if f = 49 then (match c with
        | .raw (.pointer none) => some (.tup [], { σ with boxes := σ.boxes.set s (71, [.ptr s 0, x]) })
        | .ptr s' 0 => if s' = s then some (.tup [], σ) else none
        | _ => none)
      else if f = 36 then (match x with
        | .list n cs (.own k) => (match bytesOfA cs with
          | some l => if σ.lens[k]? = some n ∧ cs.length = n ∧ 0 < n ∧ σ.elems[k]? = some 5 then some (.raw (.string ⟨l.toArray⟩), σ) else none
          | none => none)
        | _ => none)
      else none
    | _ => none
  | _ => none
theorem ent49 : Ent Tryd.prog 49 := enters_of Tryd.func49 (by kernel_rfl) rfl
theorem ent36 : Ent Tryd.prog 36 := enters_of Tryd.func36 (by kernel_rfl) rfl
theorem cc_snd1 {s : Nat} {x : AV} {σ : St} (hb : σ.boxes[s]? = some (71, [.raw (.pointer none), x])) : Snd (ITP Tryd.prog) Tryd.prog 49 [.ptr s 0] σ (.tup []) { σ with boxes := σ.boxes.set s (71, [.ptr s 0, x]) } := by
  refine ⟨ent49, fun X us hI hr => ?_⟩
  obtain ⟨a, l, rfl, ⟨b, hκ, rfl⟩, hl⟩ := hr
  have hl : l = [] := hl
  subst hl
  obtain ⟨vs, zs, u1, u2, u3⟩ := hI.box s b 71 _ hκ hb
  obtain ⟨a0, r0, rfl, h0, a1, r1, rfl, h1, h2⟩ := u2
  have h0 : a0 = .pointer none := h0
  have h2 : r1 = [] := h2
  subst h0; subst h2
  have hc := cc_fresh b zs.length X.w (by simp [World.cell?, u1]) (by simp [World.shape?, u1]) (by simp [World.frozen?, u1])
  refine hc.mono ?_
  rintro e w' ⟨rfl, rfl⟩
  obtain ⟨e1, e2⟩ := inv_set (itp_mono _) hI (vs' := [.pointer (some ⟨b, 0, none⟩), a1]) (cs' := [.ptr s 0, x]) (zs := zs) hκ hb (by simp) (fun cur t f hc => by rw [u1] at hc; cases hc; simp) ⟨_, _, rfl, ⟨b, hκ, rfl⟩, _, _, rfl, h1, rfl⟩
    (fun v hv => by
      rcases List.mem_cons.1 hv with rfl | hv
      · rfl
      · exact u3 v (List.mem_cons_of_mem _ hv))
  have hw := setCell_row X.w b _ _ _ (.pointer (some ⟨b, 0, none⟩)) u1
  refine ⟨_, _, rfl, ?_, e1, e2, ⟨[], rfl, rfl⟩⟩
  rw [hw]
  congr 1
theorem cc_snd2 {s : Nat} {x : AV} {σ : St} (hb : σ.boxes[s]? = some (71, [.ptr s 0, x])) : Snd (ITP Tryd.prog) Tryd.prog 49 [.ptr s 0] σ (.tup []) σ := by
  refine ⟨ent49, fun X us hI hr => ?_⟩
  obtain ⟨a, l, rfl, ⟨b, hκ, rfl⟩, hl⟩ := hr
  have hl : l = [] := hl
  subst hl
  obtain ⟨vs, zs, u1, u2, u3⟩ := hI.box s b 71 _ hκ hb
  obtain ⟨a0, r0, rfl, ⟨b', hκ', rfl⟩, h2⟩ := u2
  have hbb : b' = b := by rw [hκ] at hκ'; exact (Option.some.inj hκ').symm
  subst hbb
  refine (cc_used b' X.w (by simp [World.cell?, u1])).mono ?_
  rintro e w' ⟨rfl, rfl⟩
  exact ⟨_, X, rfl, rfl, Ext.refl X, hI, ⟨[], rfl, rfl⟩⟩
theorem str_snd {s n k : Nat} {c : AV} {cs : List AV} {l : List UInt8} {σ : St} (hb : σ.boxes[s]? = some (71, [c, .list n cs (.own k)])) (hl : bytesOfA cs = some l) (h1 : σ.lens[k]? = some n) (h2 : cs.length = n) (h3 : 0 < n) (h4 : σ.elems[k]? = some 5) :
    Snd (ITP Tryd.prog) Tryd.prog 36 [.ptr s 0] σ (.raw (.string ⟨l.toArray⟩)) σ := by
  refine ⟨ent36, fun X us hI hr => ?_⟩
  obtain ⟨a, l', rfl, ⟨b, hκ, rfl⟩, hl'⟩ := hr
  have hl' : l' = [] := hl'
  subst hl'
  obtain ⟨vs, zs, u1, u2, u3⟩ := hI.box s b 71 _ hκ hb
  obtain ⟨a0, r0, rfl, h0, a1, r1, rfl, hx, h5⟩ := u2
  have h5 : r1 = [] := h5
  subst h5
  rw [Rep] at hx
  obtain ⟨ad, cap, rfl, ⟨hcap, _⟩, hc, L, hL, hle, hrow⟩ := hx
  have hLn : L = n := by have := hI.lens ▸ hL; rw [h1] at this; exact (Option.some.inj this).symm
  subst hLn
  obtain ⟨r, hr, had, hcr, hsz⟩ := hrow h2
  subst had
  obtain ⟨cur, fz, c1, c2, c3, c4, c5, c6, c7⟩ := hI.row k r L hr hL
  have hel : r.elem = 5 := by
    have : (X.β.map (·.elem))[k]? = some 5 := by rw [hI.elems]; exact h4
    rw [List.getElem?_map, hr] at this
    exact Option.some.inj this
  have hat : At (ITP Tryd.prog) X cs r.block 0 := by
    rcases hc with rfl | ⟨b', o', e, h⟩
    · simp at h2; omega
    · cases e; exact h
  obtain ⟨q1, q2⟩ := bytesOfA_at hl hat
  have hlL : l.length = L := by omega
  have hsize : cur.size ≤ maxLen := by
    have : r.size = 1 := by
      rw [h2] at hsz
      have : L * 1 = L * r.size := by omega
      exact (Nat.eq_of_mul_eq_mul_left h3 this).symm
    rw [c2, this]; omega
  have hst := str_some b r.block cap cur fz l X.w (by simp [World.cell?, u1, hlL]) (by intro e; subst e; simp at hlL; omega) (by rw [c1, hel]) (by omega) hsize (by omega) (fun j x hx => by have := q2 j x hx; simpa using this)
  refine hst.mono ?_
  rintro e w' ⟨rfl, rfl⟩
  obtain ⟨d1, d2⟩ := inv_drew (itp_mono _) hI
  obtain ⟨fz', f1, f2, f3, f4, f5, f6, f7⟩ := run_freeze_heap X.w.drew r.block l.length cur r.elem fz c1 (by omega)
  obtain ⟨g1, g2⟩ := inv_refz (itp_mono _) d2 (s := k) (r := r) (L := L) (W := X.w.drew.freeze ⟨r.block, 0, none⟩ l.length) hr hL c1 (by omega) f4 f5 f6 f7 f3 f2
  exact ⟨_, _, rfl, rfl, d1.trans g1, g2, rfl⟩
theorem bldS_ok : CsOk Tryd.prog bldS := by
  intro f args σ r σ' h
  unfold bldS at h
  split at h <;> try cases h
  rename_i s
  split at h <;> try cases h
  rename_i c x hb
  split at h
  · rename_i hf; subst hf
    split at h
    · cases h; exact cc_snd1 hb
    · split at h
      · rename_i e; cases h; subst e; exact cc_snd2 hb
      · cases h
    · cases h
  · split at h
    · rename_i hf; subst hf
      split at h
      · rename_i n cs k
        split at h
        · rename_i l hl
          split at h
          · rename_i hc; cases h; exact str_snd hb hl hc.1 hc.2.1 hc.2.2.1 hc.2.2.2
          · cases h
        · cases h
      · cases h
    · cases h
def libP : CallP := fun f args =>
  match args with
  | [.raw (.string s), .raw (.int .u8 c)] => if f = 69 ∨ f = 79 then some (.raw (.int .i64 (Lib.indexByte s.data.toList c.toNat.toUInt8))) else none
  | [.raw (.string s)] => if f = 53 ∧ s.size ≤ 281474976710656 then (match Lib.atoiAll s.data.toList with
    | .ok v => some (.tup [.raw (.int .i64 v), .raw .nilIface])
    | Go.Lib.NumEnd.syntax => some (.tup [.raw (.int .i64 0), .top])
    | .range => some (.tup [.raw (.int .i64 (Lib.atoiSat s.data.toList)), .top])) else none
  | _ => none
theorem libP_ok : CpOk Tryd.prog libP := by
  intro f args r h
  unfold libP at h
  split at h
  · rename_i s c
    split at h
    · rename_i hf
      cases h
      rcases hf with rfl | rfl
      · exact ixb69 s c
      · exact ixb79 s c
    · cases h
  · rename_i s
    split at h
    · rename_i hf
      obtain ⟨rfl, hs⟩ := hf
      split at h <;> cases h
      · rename_i v hv; exact atoi_ok s v (by omega) hv
      · rename_i hv; exact atoi_syn s hs hv
      · rename_i hv; exact atoi_rng s hs hv
    · cases h
  · cases h
theorem goodT : Good Tryd.prog libP bldS := ⟨mix, ents, libP_ok, bldS_ok⟩
end Go.Ab
set_option linter.unusedSimpArgs false
set_option linter.unusedVariables false
namespace Go.Ab
open Go Go.RowKit Go.Fwd Go.Proofs
def nameL : List (List UInt8) := [[], [114, 117, 110, 110, 105, 110, 103], [101, 120, 105, 116], [101, 111, 102], [102, 117, 101, 108], [115, 105, 122, 101]]
def nameE (k : Int) : List UInt8 := nameL.getD k.toNat []
noncomputable def nameOk (f n : Nat) : Bool := match ecallP Tryd.prog libP (ev Tryd.prog libP bldS 20) f [.raw (.int .u8 (n : Int))] with
  | some r => eqAV r (.raw (.string (bs (nameE (n : Int)))))
  | none => false
theorem name_all (f : Nat) (h : ((List.range 256).all fun n => nameOk f n) = true) (k : Int) (g : 0 ≤ k ∧ k < 256) : Pure (ITP Tryd.prog) Tryd.prog f [.raw (.int .u8 k)] (.raw (.string (bs (nameE k)))) := by
  have hk := List.all_eq_true.1 h k.toNat (List.mem_range.2 (by omega))
  unfold nameOk at hk
  split at hk
  · rename_i r hr
    have := run_pure_call goodT 20 hr
    rw [eqAV_ok _ _ hk] at this
    rw [show ((k.toNat : Nat) : Int) = k by omega] at this
    exact this
  · cases hk
theorem name_pure (k : Int) (g : 0 ≤ k ∧ k < 256) : Pure (ITP Tryd.prog) Tryd.prog 11 [.raw (.int .u8 k)] (.raw (.string (bs (nameE k)))) := name_all 11 (by kernel_rfl) k g
section
variable {P : Program} {ρ : Operand → AV} {σ : St} {o : Oper}
theorem q_lenS {x : Operand} {t : TypeId} {l : List UInt8} (ho : o.op = .call ⟨.builtin .len, #[x], #[t]⟩) (hx : ρ x = .raw (.string (bs l))) (hu : P.underlying t = some .string) : qop P ρ σ o = some (.raw (.int .i64 (l.length : Int))) := by
  have h2 : aLen P t (.raw (.string (bs l))) = none := rfl
  have h1 : o.op.operands.toList.all (fun x => (toVal (ρ x)).isSome) = true := by rw [ho]; simp [Op.operands, Call.operands, hx, toVal]
  have h3 : val? P (execOp (rawEnv ρ) o) = some (.value (.int .i64 (l.length : Int))) := by
    have hsz : (bs l).size = l.length := rfl
    simp [execOp, ho, resolve, invoke, rawEnv, hx, toVal, builtin, Builtin.len_, underlying, goInt, hsz]
    simp only [program, Bind.bind, Pure.pure, Functor.map, Sem.bind, val?, hu, hsz]
    rfl
  have h4 : rawOp P ρ o = some (.raw (.int .i64 (l.length : Int))) := by
    unfold rawOp; rw [if_pos h1, ho, h3]; rfl
  simp only [qop, ho, hx, h2, h4]
end
end Go.Ab

