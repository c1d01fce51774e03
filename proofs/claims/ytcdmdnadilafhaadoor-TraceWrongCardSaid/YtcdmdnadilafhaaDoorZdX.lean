/-
  The abstract machine: regions in whose midst boxes are made and written: the end.
-/
import Derived.Test.YtcdmdnadilafhaaDoorZdV
set_option linter.unusedSimpArgs false
set_option linter.unusedVariables false
namespace Go.Ab
open Go Go.RowKit Go.Fwd
section
variable {IT : IterP} {P : Program} {M : Option Gen} {F : Fence} {nn B : Nat}
theorem pend_soundD (hIT : ITMono IT) {X : Cx} {tmps : Array Value} : ∀ (ps : List Pe) (σ : St) (Y : Cx) (S : List AV), Ext X Y → Inv IT σ Y → RepS IT Y S tmps →
    (∀ p ∈ ps, p.d < S.length ∧ ∃ (b : Nat) (us : List Value), tmps[p.d]? = some (.pointer (some ⟨b, 0, none⟩)) ∧ Y.w.heap[b]? = some (.cells us.toArray p.t (0, 0)) ∧ RepL IT Y (cellsOf p.v) us ∧ (∀ u ∈ us, u.oneCell' = true) ∧ X.w.heap.size ≤ b ∧ (∀ o, ¬ Y.F b o) ∧ b ∉ Y.κ ∧ (∀ r ∈ Y.β, r.block ≠ b) ∧ ¬ Y.O b) →
    (ps.Pairwise fun p q => tmps[p.d]? ≠ tmps[q.d]?) →
    ∃ Y', Ext X Y' ∧ Inv IT (pendσD σ ps) Y' ∧ RepS IT Y' (pendSD σ.boxes.length ps S) tmps ∧ Y'.w = Y.w
  | [], σ, Y, S, hE, hI, hr, _, _ => ⟨Y, hE, by simpa [pendσD] using hI, hr, rfl⟩
  | p0 :: ps, σ, Y, S, hE, hI, hr, hp, hpw => by
    obtain ⟨hd, b, us, h1, h2, k1, k2, h3, h4, h5, h6, h7⟩ := hp p0 List.mem_cons_self
    have hI2 := inv_addbox hIT hI (b := b) (t := p0.t) (us := us) h2 k1 k2 h4 h5 h6 h7
    have hS := sub_addbox Y b
    have hr2 : RepS IT { Y with κ := Y.κ ++ [b] } (S.set p0.d (.ptr σ.boxes.length 0)) tmps := by
      have hlen := repL_length hr
      refine repL_mk (by rw [List.length_set]; exact hlen) fun i x v e1 e2 => ?_
      by_cases e : p0.d = i
      · subst e
        rw [List.getElem?_set_self hd] at e1
        cases e1
        rw [Rep]
        have : v = .pointer (some ⟨b, 0, none⟩) := by
          have e3 : tmps[p0.d]? = some v := by simpa using e2
          rw [h1] at e3; cases e3; rfl
        refine ⟨b, ?_, this⟩
        show (Y.κ ++ [b])[σ.boxes.length]? = _
        rw [← hI.κlen]; simp
      · rw [List.getElem?_set_ne e] at e1
        obtain ⟨v', hv', hrr⟩ := repL_get hr i x e1
        rw [hv'] at e2; cases e2
        exact rep_sub hIT hS _ _ hrr
    rw [List.pairwise_cons] at hpw
    obtain ⟨Y', g1, g2, g3, g4⟩ := pend_soundD hIT ps { σ with boxes := σ.boxes ++ [(p0.t, cellsOf p0.v)] } { Y with κ := Y.κ ++ [b] } (S.set p0.d (.ptr σ.boxes.length 0)) (ext_addbox hE h3) hI2 hr2 (fun p hpm => by
      obtain ⟨q2, b', us', q3, q4, m1, m2, q5, q6, q7, q8, q9⟩ := hp p (List.mem_cons_of_mem _ hpm)
      refine ⟨by rw [List.length_set]; exact q2, b', us', q3, q4, repL_sub hIT hS _ _ m1, m2, q5, q6, fun hm => ?_, q8, q9⟩
      rcases List.mem_append.1 hm with hm | hm
      · exact q7 hm
      · simp at hm; subst hm
        exact hpw.1 p hpm (by rw [h1, q3])) hpw.2
    refine ⟨Y', g1, ?_, ?_, g4⟩
    · have e : pendσD { σ with boxes := σ.boxes ++ [(p0.t, cellsOf p0.v)] } ps = pendσD σ (p0 :: ps) := by simp [pendσD]
      rw [← e]; exact g2
    · simpa [pendSD] using g3
theorem adrawD_sound (hIT : ITMono IT) (hF : FenceOk F P) (hG : GenM P B M) (hmix : P.follows .mixedOrders = true) {id : Nat} {ops : Array Oper} {Q : List AV → St → Prop} {K : Exit → Act → World → Prop} {X0 X : Cx} {S : List AV} {σ : St} {a : Act}
    (hQ : ∀ S σ X a, Q S σ → Now IT M F B X0 S σ X a → K .normal a X.w) (h : adrawD IT P (rowsOf M) ops Q S σ) (hn : Now IT M F B X0 S σ X a) : (Code.region id ops true).wpIn F nn P K a X.w := by
  obtain ⟨l, rfl⟩ : ∃ l : List Oper, ops = l.toArray := ⟨ops.toList, by simp⟩
  obtain ⟨n, pl, hc, hnd, hpl, h⟩ := h
  simp only [List.toList_toArray] at hnd h
  have hlen : S.length = a.tmps.size := by have := repL_length hn.reps; simpa using this
  have hpl0 := hpl
  simp only [plOk, Bool.and_eq_true, decide_eq_true_eq, List.all_eq_true] at hpl
  obtain ⟨⟨⟨hd1, ha1⟩, hs1⟩, hlt1⟩ := hpl
  have hnl : n ≤ l.length := by
    simp only [chk, Bool.and_eq_true, decide_eq_true_eq] at hc
    simpa using hc.1.1.2
  have htk : (l.take n).length = n := by simp; omega
  obtain ⟨γ0, hγ0⟩ : ∃ γ0 : GS X, γ0 = ⟨X.w, [], fun _ h => (by cases h), fun _ h => (by cases h), fun _ h => (by cases h), fun _ h => (by cases h), Grows.refl _⟩ := ⟨_, rfl⟩
  have hπ : (ghS IT X pl).π γ0 = X.w := by rw [hγ0]; rfl
  have hd0 : Grows X.w { X.w with drawn := X.w.drawn + 1 } := (Grows.refl _).drew
  have hd0' : Grows γ0.W { X.w with drawn := X.w.drawn + 1 } := by rw [hγ0]; exact hd0
  have key := FwdJ.wpIn_region_fwd (G := ghS IT X pl) (F := F) (nn := nn) (P := P) (id := id) (Q := K) (a := a) (w := γ0) (w1 := γ0.next { X.w with drawn := X.w.drawn + 1 } hd0') (l := l) hF n (by rw [hπ]; rfl) (LeS.of_grows γ0 _ hd0')
    (fun d hd => by
      refine ⟨fun q hq => ?_, fun p hp => ?_⟩
      · have : q ∈ γ0.B := hq
        rw [hγ0] at this; cases this
      · obtain ⟨⟨k1, k2⟩, _⟩ := hlt1 p hp
        have e1 := hd p.al (by omega)
        have e2 := hd p.st (by omega)
        exact ⟨fun h => (by rw [e2] at h; cases h), fun h => (by rw [e1] at h; cases h)⟩) hmix
    (fun o ho c e => by
      have := List.all_eq_true.1 hnd o ho
      rw [e] at this; cases this)
    (by rw [← hlen]; exact hc)
    (aheadD_fwd (P := P) (γ0 := γ0) (K := fun S' => aops IT P (rowsOf M) l.toArray Q (l.drop n) (pendSD σ.boxes.length pl S') (pendσD σ pl)) hIT hn.inv hpl0 (fun S' acc hk hl hA (γ : (ghS IT X pl).Γ) hle hJ => FwdJ.endAt_all (G := ghS IT X pl) (w := γ) fun a' h1 h2 h3 => ?_)
      (l.take n) 0 S [] (by rw [htk]; omega) h hlen ⟨fun t v γ he => by
        have e : v = a.eval (.tmp t) := he
        subst e
        exact rep_mono hIT (ext_grownB hn.inv γ.B γ.grows) _ _ (rep_eval hn.reps (.tmp t)), fun p hp hlt => by omega⟩)
  · rw [hπ] at key; exact key
  have hE := ext_grownB hn.inv γ.B γ.grows
  obtain ⟨dn, hdn, hJ⟩ := hJ
  have hJ : JS IT X pl dn γ := hJ
  have hev : ∀ i, i < a.tmps.size → FwdJ.env a acc i (a'.eval (.tmp i)) γ := fun i hi => h3 i hi
  have hval : ∀ i (hi : i < a.tmps.size), a'.tmps[i]? = some (a'.eval (.tmp i)) := fun i hi => by
    have : i < a'.tmps.size := by omega
    simp [Act.eval, this]
  have hrs : RepS IT (grownB X γ.W γ.B) S' a'.tmps := repL_mk (by simp [hl, h1]) fun i x v e1 e2 => by
    have hi : i < a.tmps.size := by have := (List.getElem?_eq_some_iff.1 e1).1; omega
    have := hA.1 i (a'.eval (.tmp i)) γ (hev i hi)
    have ev : a'.eval (.tmp i) = v := by
      have h := hval i hi
      have e3 : a'.tmps[i]? = some v := by simpa using e2
      rw [e3] at h; cases h; rfl
    rw [ev] at this
    simpa only [aval, e1, Option.getD_some] using this
  have hpb : ∀ p ∈ pl, p.d < S'.length ∧ ∃ (b : Nat) (us : List Value), (p.d, b) ∈ γ.B ∧ a'.tmps[p.d]? = some (.pointer (some ⟨b, 0, none⟩)) ∧ γ.W.heap[b]? = some (.cells us.toArray p.t (0, 0)) ∧ RepL IT (grownB X γ.W γ.B) (cellsOf p.v) us ∧ ∀ u ∈ us, u.oneCell' = true := fun p hp => by
    obtain ⟨⟨q1, q2⟩, _⟩ := hlt1 p hp
    obtain ⟨k1, k2, k3⟩ := hA.2 p hp (by omega)
    have hi : p.d < a.tmps.size := by rw [← hl]; exact k1
    obtain ⟨b, b1, b2⟩ := k3 _ γ (hev p.d hi)
    obtain ⟨b', c1, c2⟩ := (hJ.2 p hp).2 (hdn _ (by omega))
    have hbb : b' = b := by have := γ.ud _ c1 _ b1 rfl; simpa using this
    subst hbb
    rcases c2 with ⟨c2, _⟩ | ⟨_, us, c3, c4, c5⟩
    · rw [hdn _ q2] at c2; cases c2
    · exact ⟨k1, b', us, b1, by rw [hval p.d hi, b2], c3, c4, c5⟩
  have hlt : ∀ {b : Nat}, X.w.heap.size ≤ b → b ∉ X.κ := fun hb hm => by have := hn.inv.κlt hm; omega
  obtain ⟨Y', g1, g2, g3, g4⟩ := pend_soundD hIT (X := X) (tmps := a'.tmps) pl σ (grownB X γ.W γ.B) S' hE (inv_grownB hIT hn.inv γ.B γ.grows) hrs
    (fun p hp => by
      obtain ⟨k1, b, us, b1, b2, b3, b4, b5⟩ := hpb p hp
      have hb := γ.lo _ b1
      refine ⟨k1, b, us, b2, b3, b4, b5, hb, fun o hf => ?_, hlt hb, fun r hr e => ?_, fun ho => ?_⟩
      · rcases hf with hf | ⟨_, hf, _⟩
        · have := hn.inv.Flt hf; simp only at hb; omega
        · exact hf _ b1 rfl
      · have := hn.inv.βlt hr; simp only at hb; omega
      · have := hn.inv.Olt ho; simp only at hb; omega)
    (by
      rw [List.nodup_iff_pairwise_ne, List.pairwise_map] at hd1
      refine List.Pairwise.imp_of_mem (fun {p q} hp hq hne e => ?_) hd1
      obtain ⟨_, b, _, b1, b2, _⟩ := hpb p hp
      obtain ⟨_, b', _, b1', b2', _⟩ := hpb q hq
      rw [b2, b2'] at e
      have eb : b = b' := by simpa using e
      have := γ.nd _ b1 _ b1' eb
      exact hne ((Prod.mk.inj this).1))
  have hnow : Now IT M F B X0 (pendSD σ.boxes.length pl S') (pendσD σ pl) Y' a' := ⟨hn.ext.trans (Rel.of g1), g2, g3, by rw [h2]; exact hn.marks.ext g1 hn.inv, FrM.ext hG hn.frn g1 hn.inv rfl rfl⟩
  have := aops_sound (nn := nn) hIT hF hG hQ (l.drop n) _ _ Y' a' hk hnow
  rw [g4] at this
  exact this
end
end Go.Ab

