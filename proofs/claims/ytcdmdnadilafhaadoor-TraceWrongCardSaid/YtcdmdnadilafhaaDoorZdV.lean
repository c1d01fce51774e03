/-
  The abstract machine: regions in whose midst boxes are made and written: the law.
-/
import Derived.Test.YtcdmdnadilafhaaDoorZdU
set_option linter.unusedSimpArgs false
set_option linter.unusedVariables false
namespace Go.Ab
open Go Go.RowKit Go.Fwd
theorem nodup_inj {α β : Type} (f : α → β) : ∀ l : List α, (l.map f).Nodup → ∀ p ∈ l, ∀ q ∈ l, f p = f q → p = q
  | [], _, p, hp, _, _, _ => by cases hp
  | a :: l, h, p, hp, q, hq, e => by
    rw [List.map_cons, List.nodup_cons] at h
    rcases List.mem_cons.1 hp with hp1 | hp1
    · rcases List.mem_cons.1 hq with hq1 | hq1
      · rw [hp1, hq1]
      · exact (h.1 (List.mem_map.2 ⟨q, hq1, by rw [← e, hp1]⟩)).elim
    · rcases List.mem_cons.1 hq with hq1 | hq1
      · exact (h.1 (List.mem_map.2 ⟨p, hp1, by rw [e, hq1]⟩)).elim
      · exact nodup_inj f l h.2 p hp1 q hq1 e
def plOk (pl : List Pe) (n : Nat) : Bool := decide (pl.map (·.d)).Nodup && decide (pl.map (·.al)).Nodup && decide (pl.map (·.st)).Nodup && pl.all (fun p => decide (p.al < p.st) && decide (p.st < n) && pl.all fun q => decide (p.al ≠ q.st))
def aheadD (IT : IterP) (P : Program) (ops : Array Oper) (σ : St) (pl : List Pe) (K : List AV → Prop) : Nat → List Oper → List AV → Prop
  | _, [], S => K S
  | k, o :: l, S => (o.dst.all fun d => decide (d < S.length)) = true ∧
    ((∃ p ∈ pl, p.al = k ∧ o.guard = none ∧ o.op = .alloc p.t ∧ o.dst = some p.d ∧ zeroOf P p.t = some p.z ∧ aheadD IT P ops σ pl K (k + 1) l (S.set p.d .top)) ∨
     (∃ p ∈ pl, p.st = k ∧ p.al < k ∧ o.guard = none ∧ o.dst = none ∧ (∃ y, o.op = .store p.t (.tmp p.d) y ∧ aval S y = p.v) ∧ cellOk p.v = true ∧ sizeT P p.t = some p.z.cells.size ∧ (cellsOf p.v).length = p.z.cells.size ∧
       (o.after.toList.any fun e => Region.binds .any e && decide (e.on = p.al)) = true ∧ aheadD IT P ops σ pl K (k + 1) l S) ∨
     ((pl.all fun p => decide (p.al ≠ k) && decide (p.st ≠ k) && (o.dst != some p.d)) = true ∧
      match o.guard with
      | none => hstep IT P o S σ fun a => aheadD IT P ops σ pl K (k + 1) l (aput S o.dst a)
      | some (j, b) => ∃ c, aguard ops S j = some c ∧ (if c = some b then hstep IT P o S σ fun a => aheadD IT P ops σ pl K (k + 1) l (aput S o.dst a) else aheadD IT P ops σ pl K (k + 1) l (aput S o.dst (.raw undef)))))
def pendSD : Nat → List Pe → List AV → List AV
  | _, [], S => S
  | n, p :: ps, S => pendSD (n + 1) ps (S.set p.d (.ptr n 0))
def pendσD (σ : St) (ps : List Pe) : St := { σ with boxes := σ.boxes ++ ps.map fun p => (p.t, cellsOf p.v) }
def adrawD (IT : IterP) (P : Program) (W : Owed) (ops : Array Oper) (Q : List AV → St → Prop) (S : List AV) (σ : St) : Prop :=
  ∃ n pl, chk ops S.length n = true ∧ noDefer ops.toList = true ∧ plOk pl n = true ∧ aheadD IT P ops σ pl (fun S' => aops IT P W ops Q (ops.toList.drop n) (pendSD σ.boxes.length pl S') (pendσD σ pl)) 0 (ops.toList.take n) S
section
variable {IT : IterP} {P : Program} {M : Option Gen} {F : Fence} {nn B : Nat}
def WB (IT : IterP) (X : Cx) (pl : List Pe) (x : AV) : FwdJ.VP (ghS IT X pl) := fun v (γ : GS X) => Rep IT (grownB X γ.W γ.B) x v
def WN (IT : IterP) (X : Cx) (pl : List Pe) (d : Tmp) : FwdJ.VP (ghS IT X pl) := fun v (γ : GS X) => ∃ b, (d, b) ∈ γ.B ∧ v = .pointer (some ⟨b, 0, none⟩)
theorem wb_mono (hIT : ITMono IT) {σ : St} {X : Cx} (hI : Inv IT σ X) (pl : List Pe) (x : AV) : FwdJ.Mono (WB IT X pl x) := fun v w w' hg h =>
  rep_sub hIT (sub_grownS (fun b i h => hI.Flt h) (fun s b h => hI.κlt (List.mem_of_getElem? h)) hg) _ _ h
theorem wn_mono (X : Cx) (pl : List Pe) (d : Tmp) : FwdJ.Mono (WN IT X pl d) := fun v w w' hg ⟨b, h1, h2⟩ => ⟨b, (show LeS w w' from hg).B _ h1, h2⟩
def EnvOkD (IT : IterP) (X : Cx) (pl : List Pe) (a0 : Act) (acc : FwdJ.Acc (ghS IT X pl)) (S : List AV) (k : Nat) : Prop :=
  (∀ t v (γ : GS X), FwdJ.env a0 acc t v γ → Rep IT (grownB X γ.W γ.B) (aval S (.tmp t)) v) ∧
  (∀ p ∈ pl, p.al < k → p.d < S.length ∧ S[p.d]? = some .top ∧ ∀ v (γ : GS X), FwdJ.env a0 acc p.d v γ → WN IT X pl p.d v γ)
theorem envJ_accOf {G : FwdJ.Gh} {a0 : Act} {acc : FwdJ.Acc G} {d : Option Tmp} {V : FwdJ.VP G} {t : Tmp} : FwdJ.env a0 (FwdJ.accOf acc d V) t = if d = some t then V else FwdJ.env a0 acc t := by
  cases d with
  | none => simp [FwdJ.accOf]
  | some d => simp [FwdJ.accOf, FwdJ.env]
theorem envOkD_put {X : Cx} {pl : List Pe} {a0 : Act} {acc : FwdJ.Acc (ghS IT X pl)} {S : List AV} {k : Nat} (h : EnvOkD IT X pl a0 acc S k) (d : Option Tmp) (x : AV) (hd : (d.all fun d => decide (d < S.length)) = true) (hp : ∀ p ∈ pl, d ≠ some p.d) (hk : ∀ p ∈ pl, p.al ≠ k) :
    EnvOkD IT X pl a0 (FwdJ.accOf acc d (WB IT X pl x)) (aput S d x) (k + 1) := by
  obtain ⟨h1, h2⟩ := h
  refine ⟨fun t v γ he => ?_, fun p hpm hlt => ?_⟩
  · rw [envJ_accOf] at he
    by_cases e : d = some t
    · subst e
      rw [if_pos rfl] at he
      have hlt : t < S.length := by simpa using hd
      simp only [aput, aval, List.getElem?_set_self hlt, Option.getD_some]
      exact he
    · rw [if_neg e] at he
      have : aval (aput S d x) (.tmp t) = aval S (.tmp t) := by
        cases d with
        | none => rfl
        | some d => simp only [aput, aval]; rw [List.getElem?_set_ne (fun h => e (by rw [h]))]
      rw [this]; exact h1 t v γ he
  · obtain ⟨k1, k2, k3⟩ := h2 p hpm (by have := hk p hpm; omega)
    have hne := hp p hpm
    refine ⟨by rw [aput_length]; exact k1, ?_, fun v γ he => k3 v γ ?_⟩
    · cases d with
      | none => exact k2
      | some d => simp only [aput]; rw [List.getElem?_set_ne (fun h => hne (by rw [h]))]; exact k2
    · rw [envJ_accOf, if_neg hne] at he; exact he
theorem rep_readsD {X : Cx} {pl : List Pe} {a0 : Act} {acc : FwdJ.Acc (ghS IT X pl)} {S : List AV} {k : Nat} (h : EnvOkD IT X pl a0 acc S k) {ρ : Operand → Value} {γ : GS X} (hE : Env ρ) {l : List Operand} (hr : FwdJ.All (G := ghS IT X pl) (FwdJ.env a0 acc) ρ γ (readsOf l)) : ∀ x ∈ l, Rep IT (grownB X γ.W γ.B) (aval S x) (ρ x) := by
  induction l with
  | nil => intro x hx; cases hx
  | cons y l ih =>
    intro x hx
    cases y with
    | tmp t =>
      simp only [readsOf, FwdJ.All] at hr
      rcases List.mem_cons.1 hx with rfl | hx
      · exact h.1 t _ γ hr.1
      · exact ih hr.2 x hx
    | const v =>
      rcases List.mem_cons.1 hx with rfl | hx
      · rw [hE.const]; simp only [aval]
        split
        · rename_i h; exact rep_ofVal v h
        · rw [Rep]
      · exact ih hr x hx
    | func f =>
      rcases List.mem_cons.1 hx with rfl | hx
      · rw [hE.func]; simp only [aval, Rep]; exact ⟨[], rfl, by rw [RepL]⟩
      · exact ih hr x hx
    | global g =>
      rcases List.mem_cons.1 hx with rfl | hx
      · rw [hE.global]; simp [aval, Rep]
      · exact ih hr x hx
theorem hstepD_sound (hIT : ITMono IT) {σ : St} {X : Cx} (hI : Inv IT σ X) {pl : List Pe} {a0 : Act} {acc : FwdJ.Acc (ghS IT X pl)} {S : List AV} {k : Nat} {o : Oper} {K : AV → Prop} (h : hstep IT P o S σ K) (hA : EnvOkD IT X pl a0 acc S k) (hk : ∀ p ∈ pl, p.al ≠ k ∧ p.st ≠ k) :
    ∃ x, K x ∧ ∀ (ρ : Operand → Value) (γ : GS X) (dn : Nat → Bool), Env ρ → FwdJ.All (G := ghS IT X pl) (FwdJ.env a0 acc) ρ γ (readsOf o.op.operands.toList) → JS IT X pl dn γ → FwdJ.OpGood (G := ghS IT X pl) P (FwdJ.VJ dn k (WB IT X pl x)) γ ((execOp ρ o).run P γ.W) := by
  unfold hstep at h
  have fin : ∀ {x : AV} {v : Value} {γ : GS X} {X' : Cx} (hg : Grows γ.W X'.w), Inv IT σ X' → Rep IT X' x v → X'.κ = X.κ → X'.β = X.β → X'.lens = X.lens → (∀ b i, X'.F b i → (grownB X γ.W γ.B).F b i ∨ γ.W.heap.size ≤ b) → WB IT X pl x v (γ.next X'.w hg) := by
    intro x v γ X' hg h2 h3 h5 h6 h7 h8
    show Rep IT (grownB X X'.w γ.B) x v
    refine rep_sub hIT (X := X') (X' := grownB X X'.w γ.B) ⟨fun b i hf => ?_, fun _ _ _ => rfl, fun s b hs => by rw [h5] at hs; exact hs, fun s L hs => by rw [h7] at hs; exact ⟨L, hs, Nat.le_refl _, fun _ => by rw [h6]; rfl⟩, fun s b hs cur t f h => ⟨cur, h, rfl⟩, Szs.refl _⟩ _ _ h3
    rcases h8 b i hf with h | h
    · rcases h with h | ⟨ha, hb, hc⟩
      · exact .inl h
      · exact .inr ⟨ha, hb, h2.Fcell b i hf⟩
    · refine .inr ⟨Nat.le_trans γ.grows.size h, fun p hp e => ?_, h2.Fcell b i hf⟩
      have := γ.hi p hp; omega
  split at h
  · rename_i f args hc
    obtain ⟨r, hok, hp, hk'⟩ := h
    refine ⟨r, hk', fun ρ γ dn hE hr hJ => ?_⟩
    have hρ := rep_readsD hA hE hr
    obtain ⟨vs, hrun, hrr⟩ := acall_sound (IT := IT) (P := P) (X := grownB X γ.W γ.B) hc (fun x hx => hρ x (by simpa using hx)) hp.1
    rw [show (execOp ρ o).run P γ.W = _ from hrun]
    refine (pure_lift hIT hp rfl hok (inv_grownB hIT hI γ.B γ.grows) hrr).mono ?_
    rintro e w' ⟨v, X', rfl, rfl, h1, h2, h3, h4, h5, h6, h7, hO, h8⟩
    exact ⟨v, rfl, γ.next X'.w h4, rfl, LeS.of_grows γ X'.w h4, fin h4 h2 h3 h5 h6 h7 h8, js_next hIT hI hJ hk h4⟩
  · obtain ⟨x, hx, h⟩ := h
    refine ⟨x, h, fun ρ γ dn hE hr hJ => ?_⟩
    have hρ := rep_readsD hA hE hr
    obtain ⟨v, X', h1, h2, h3, h4, h5, h6, h7, h8, hO, h9⟩ := qopR_sound hIT (X := grownB X γ.W γ.B) hx (fun x hx => hρ x (by simpa using hx)) (inv_grownB hIT hI γ.B γ.grows)
    rw [show (execOp ρ o).run P γ.W = _ from h1]
    exact ⟨γ.next X'.w h5, rfl, LeS.of_grows γ X'.w h5, fin h5 h3 h4 h6 h7 h8 h9, js_next hIT hI hJ hk h5⟩
theorem alloc_run {γ : World} {ρ : Operand → Value} {o : Oper} {t : TypeId} {z : Value} (ho : o.op = .alloc t) (hz : zeroOf P t = some z) : (execOp ρ o).run P γ = .ok (.value (.pointer (some ⟨γ.heap.size, 0, none⟩))) (γ.alloc (.cells z.cells t)) := by
  obtain ⟨⟨i, hi, hz'⟩, _, _⟩ := zeroOf_spec hz
  have hrun : (Instr.alloc t true (.tuple #[])).run P γ = .ok (.pointer (some ⟨γ.heap.size, 0, none⟩)) (γ.alloc (.cells z.cells t)) := by
    have : (Instr.alloc t true (.tuple #[])).run P γ = (Instr.box t z).run P γ := by
      simp [Instr.alloc, Instr.box, run_zeroValue hi hz']
    rw [this]
    simp only [Instr.box, Sem.run_bind, run_newVar, Result.andThen_ok, Sem.run_pure]
  simp [execOp, ho, hrun]
theorem store_run {W : World} {ρ : Operand → Value} {o : Oper} {t : TypeId} {x y : Operand} {b n : Nat} {cur : Array Value} (ho : o.op = .store t x y) (hx : ρ x = .pointer (some ⟨b, 0, none⟩)) (hn : sizeT P t = some n) (hb : W.heap[b]? = some (.cells cur t (0, 0))) (hc : cur.size = n) (hv : (ρ y).cells.size = n)
    (h1 : ∀ u ∈ (ρ y).cells.toList, u.oneCell' = true) : (execOp ρ o).run P W = .ok .skip (W.setRow b (ρ y).cells.toList.toArray) := by
  have hst := run_storeCells_at P b 0 t (ρ y).cells.toList 0 cur W hb (by simp; omega) h1
  simp only [Nat.add_zero, List.take_zero, List.nil_append, Nat.zero_add, Array.length_toList] at hst
  have hd : cur.toList.drop (ρ y).cells.size = [] := List.drop_of_length_le (by simp; omega)
  rw [hd, List.append_nil] at hst
  have : (Instr.storeAt t (ρ x) (ρ y)).run P W = .ok () (W.setRow b (ρ y).cells.toList.toArray) := by
    simp only [Instr.storeAt, Instr.sureAddr, storeVar, Sem.run_bind, Sem.run_pure, Result.andThen_ok, run_sizeT hn, hv, hx]
    simpa using hst
  simp [execOp, ho, this]
theorem aheadD_fwd (hIT : ITMono IT) {σ : St} {X : Cx} (hI : Inv IT σ X) {ops : Array Oper} {a0 : Act} {pl : List Pe} {n : Nat} (hpl : plOk pl n = true) {K : List AV → Prop} {fin : FwdJ.Acc (ghS IT X pl) → Prop} {γ0 : GS X}
    (hfin : ∀ S acc, K S → S.length = a0.tmps.size → EnvOkD IT X pl a0 acc S n → fin acc) :
    ∀ (l : List Oper) (k : Nat) (S : List AV) (acc : FwdJ.Acc (ghS IT X pl)), k + l.length = n → aheadD IT P ops σ pl K k l S → S.length = a0.tmps.size → EnvOkD IT X pl a0 acc S k → FwdJ.FwdGo (G := ghS IT X pl) P ops γ0 a0 fin l k acc
  | [], k, S, acc, hn, h, hl, hA => hfin S acc h hl (by simp at hn; subst hn; exact hA)
  | o :: l, k, S, acc, hn, h, hl, hA => by
    simp only [plOk, Bool.and_eq_true, decide_eq_true_eq, List.all_eq_true] at hpl
    obtain ⟨⟨⟨hd1, ha1⟩, hs1⟩, hlt1⟩ := hpl
    have hpl' : plOk pl n = true := by simp only [plOk, Bool.and_eq_true, decide_eq_true_eq, List.all_eq_true]; exact ⟨⟨⟨hd1, ha1⟩, hs1⟩, hlt1⟩
    have hn' : k + 1 + l.length = n := by simp at hn; omega
    simp only [aheadD] at h
    obtain ⟨hd, h⟩ := h
    rcases h with ⟨p, hp, rfl, hg, ho, hdst, hz, hk⟩ | ⟨p, hp, rfl, hlt, hg, hdst, ⟨y, ho, hy⟩, hco, hsz, hcl, haft, hk⟩ | ⟨hno, h⟩
    · have hdl : p.d < S.length := by rw [hdst] at hd; simpa using hd
      refine ⟨WN IT X pl p.d, wn_mono X pl p.d, fun ρ γ dn hE hgr hr hJ hdn haf => ?_, ?_⟩
      · rw [hg]
        simp only
        obtain ⟨γ', e1, e2, e3, e4⟩ := js_alloc hIT hI (γ := γ) (dn := dn) hJ hp hdn (fun q hq e => nodup_inj _ _ hd1 q hq p hp e) (fun q hq e => nodup_inj _ _ ha1 q hq p hp e) (fun q hq e => ((hlt1 p hp).2 q hq) e.symm)
        rw [show (execOp ρ o).run P ((ghS IT X pl).π γ) = _ from alloc_run (P := P) ho hz]
        exact ⟨γ', e1, e2, ⟨_, e3, rfl⟩, e4⟩
      · rw [hdst]
        refine aheadD_fwd hIT hI hpl' hfin l _ _ _ hn' hk (by rw [List.length_set]; exact hl) ⟨fun t v γ he => ?_, fun q hq hlt => ?_⟩
        · rw [envJ_accOf] at he
          by_cases e : p.d = t
          · subst e
            simp only [aval, List.getElem?_set_self hdl, Option.getD_some]
            rw [Rep]; trivial
          · rw [if_neg (fun h => e (Option.some.inj h))] at he
            simp only [aval]
            rw [List.getElem?_set_ne e]; exact hA.1 t v γ he
        · by_cases e : q = p
          · subst e
            refine ⟨by rw [List.length_set]; exact hdl, List.getElem?_set_self hdl, fun v γ he => ?_⟩
            rw [envJ_accOf, if_pos rfl] at he; exact he
          · have hqa : q.al ≠ p.al := fun h => e (nodup_inj (fun x : Pe => x.al) _ ha1 q hq p hp h)
            have hqd : p.d ≠ q.d := fun h => e (nodup_inj (fun x : Pe => x.d) _ hd1 q hq p hp h.symm)
            obtain ⟨k1, k2, k3⟩ := hA.2 q hq (by omega)
            refine ⟨by rw [List.length_set]; exact k1, by rw [List.getElem?_set_ne hqd]; exact k2, fun v γ he => k3 v γ ?_⟩
            rw [envJ_accOf, if_neg (fun h => hqd (Option.some.inj h))] at he; exact he
    · refine ⟨fun _ _ => True, fun _ _ _ _ _ => trivial, fun ρ γ dn hE hgr hr hJ hdn haf => ?_, ?_⟩
      · rw [hg]
        simp only
        have hal : dn p.al = true := by
          obtain ⟨e, he, hb⟩ := List.any_eq_true.1 haft
          simp only [Bool.and_eq_true, decide_eq_true_eq] at hb
          have := haf e (Array.mem_toList_iff.1 he) hb.1
          rw [hb.2] at this; exact this
        have hops : o.op.operands.toList = [.tmp p.d, y] := by rw [ho]; rfl
        rw [hops] at hr
        have hρ := rep_readsD hA hE hr
        have hry : Rep IT (grownB X γ.W γ.B) p.v (ρ y) := by rw [← hy]; exact hρ y (by simp)
        obtain ⟨c1, c2⟩ := cells_rep hco hry
        have henv : FwdJ.env a0 acc p.d (ρ (.tmp p.d)) γ := by
          simp only [readsOf, FwdJ.All] at hr
          exact hr.1
        obtain ⟨b, hb, hpb⟩ := (hA.2 p hp hlt).2.2 _ γ henv
        obtain ⟨hz, γ', e1, e2, e3⟩ := js_store hIT hI (γ := γ) (dn := dn) hJ hp hdn hal (fun q hq e => nodup_inj _ _ hd1 q hq p hp e) (fun q hq e => nodup_inj _ _ hs1 q hq p hp e) (fun q hq => (hlt1 q hq).2 p hp) hb c1 c2 (by have hlen := repL_length c1; simp at hlen ⊢; omega)
        have hlen := repL_length c1
        rw [show (execOp ρ o).run P ((ghS IT X pl).π γ) = _ from store_run (P := P) ho hpb hsz hz rfl (by simp at hlen; omega) c2]
        exact ⟨γ', e1, e2, trivial, e3⟩
      · rw [hdst]
        exact aheadD_fwd hIT hI hpl' hfin l _ _ _ hn' hk hl ⟨hA.1, fun q hq hlt' => hA.2 q hq (by
          have := (hlt1 q hq).2 p hp
          omega)⟩
    · have hno' : ∀ p ∈ pl, (p.al ≠ k ∧ p.st ≠ k) ∧ o.dst ≠ some p.d := fun p hp => by
        have := List.all_eq_true.1 hno p hp
        simpa using this
      cases hg : o.guard with
      | none =>
        rw [hg] at h
        obtain ⟨x, hk, hs⟩ := hstepD_sound (P := P) hIT hI h hA (fun p hp => (hno' p hp).1)
        exact ⟨WB IT X pl x, wb_mono hIT hI pl x, fun ρ γ dn hE hgr hr hJ hdn haf => by rw [hg]; exact hs ρ γ dn hE hr hJ, aheadD_fwd hIT hI hpl' hfin l _ _ _ hn' hk (by rw [aput_length]; exact hl) (envOkD_put hA o.dst x hd (fun p hp => (hno' p hp).2) (fun p hp => (hno' p hp).1.1))⟩
      | some kb =>
        obtain ⟨j, b⟩ := kb
        rw [hg] at h
        obtain ⟨c, hc, h⟩ := h
        obtain ⟨d, u, hdk, hsd, hcu⟩ : ∃ d u, dstOf ops j = some d ∧ S[d]? = some (.raw u) ∧ ∀ t, u = .bool t ↔ c = some t := by
          unfold aguard at hc
          split at hc <;> try cases hc
          rename_i d hd'
          split at hc <;> cases hc
          · rename_i c' hs
            exact ⟨d, _, hd', hs, fun t => by simp⟩
          · rename_i u hne hs
            exact ⟨d, u, hd', hs, fun t => ⟨fun e => absurd e (hne t), fun e => by cases e⟩⟩
        have hgv : ∀ g (γ : GS X), FwdJ.env a0 acc d g γ → g = u := fun g γ he => by
          have := hA.1 d g γ he
          simp only [aval, hsd, Option.getD_some] at this
          rw [Rep] at this; exact this
        by_cases e : c = some b
        · rw [if_pos e] at h
          obtain ⟨x, hk, hs⟩ := hstepD_sound (P := P) hIT hI h hA (fun p hp => (hno' p hp).1)
          refine ⟨WB IT X pl x, wb_mono hIT hI pl x, fun ρ γ dn hE hgr hr hJ hdn haf => ?_, aheadD_fwd hIT hI hpl' hfin l _ _ _ hn' hk (by rw [aput_length]; exact hl) (envOkD_put hA o.dst x hd (fun p hp => (hno' p hp).2) (fun p hp => (hno' p hp).1.1))⟩
          rw [hg]
          exact ⟨d, hdk, fun g he => ⟨fun _ => hs ρ γ dn hE hr hJ, fun hne => absurd (by rw [hgv g γ he, (hcu b).2 e]) hne⟩⟩
        · rw [if_neg e] at h
          refine ⟨WB IT X pl (.raw undef), wb_mono hIT hI pl _, fun ρ γ dn hE hgr hr hJ hdn haf => ?_, aheadD_fwd hIT hI hpl' hfin l _ _ _ hn' h (by rw [aput_length]; exact hl) (envOkD_put hA o.dst _ hd (fun p hp => (hno' p hp).2) (fun p hp => (hno' p hp).1.1))⟩
          rw [hg]
          refine ⟨d, hdk, fun g he => ⟨fun hb => ?_, fun _ => ⟨by show Rep _ _ _ _; rw [Rep], ?_⟩⟩⟩
          · rw [hgv g γ he] at hb
            exact absurd ((hcu b).1 hb) e
          · exact js_next hIT hI (γ := γ) hJ (fun p hp => (hno' p hp).1) (Grows.refl _)
end
end Go.Ab

