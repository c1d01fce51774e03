/-
  The abstract machine: regions in whose midst boxes are made and written: the end.
-/
import Derived.Test.YtmoncghgagmilaaZdU
set_option linter.unusedSimpArgs false
set_option linter.unusedVariables false
namespace Go.Ab
open Go Go.RowKit Go.Fwd
theorem zgf {α β : Type} (f : α → β) : ∀ l : List α, (l.map f).Nodup → ∀ p ∈ l, ∀ q ∈ l, f p = f q → p = q
 | [], _, p, hp, _, _, _ => by cases hp
 | a :: l, h, p, hp, q, hq, e => by
  rw [List.map_cons, List.nodup_cons] at h
  rcases List.mem_cons.1 hp with hp1 | hp1
  ·rcases List.mem_cons.1 hq with hq1 | hq1
   ·rw [hp1, hq1]
   ·exact (h.1 (List.mem_map.2 ⟨q, hq1, by rw [← e, hp1]⟩)).elim
  ·rcases List.mem_cons.1 hq with hq1 | hq1
   ·exact (h.1 (List.mem_map.2 ⟨p, hp1, by rw [e, hq1]⟩)).elim
   ·exact zgf f l h.2 p hp1 q hq1 e
def plOk (pl : List Pe) (n : Nat) : Bool := decide (pl.map (·.d)).Nodup && decide (pl.map (·.al)).Nodup && decide (pl.map (·.st)).Nodup && pl.all (fun p => decide (p.al < p.st) && decide (p.st < n) && pl.all fun q => decide (p.al ≠ q.st))
def zeh (IT : IterP) (P : Program) (ops : Array Oper) (σ : St) (pl : List Pe) (K : List AV → Prop) : Nat → List Oper → List AV → Prop
 | _, [], S => K S
 | k, o :: l, S => (o.dst.all fun d => decide (d < S.length)) = true ∧
  ((∃ p ∈ pl, p.al = k ∧ o.guard = none ∧ o.op = .alloc p.t ∧ o.dst = some p.d ∧ zhm P p.t = some p.z ∧ zeh IT P ops σ pl K (k + 1) l (S.set p.d .top)) ∨
   (∃ p ∈ pl, p.st = k ∧ p.al < k ∧ o.guard = none ∧ o.dst = none ∧ (∃ y, o.op = .store p.t (.tmp p.d) y ∧ zcp S y = p.v) ∧ zhk p.v = true ∧ zec P p.t = some p.z.cells.size ∧ (cellsOf p.v).length = p.z.cells.size ∧
    (o.after.toList.any fun e => Region.binds .any e && decide (e.on = p.al)) = true ∧ zeh IT P ops σ pl K (k + 1) l S) ∨
   ((pl.all fun p => decide (p.al ≠ k) && decide (p.st ≠ k) && (o.dst != some p.d)) = true ∧
    match o.guard with
    | none => zgu IT P o S σ fun a => zeh IT P ops σ pl K (k + 1) l (zn S o.dst a)
    | some (j, b) => ∃ c, zea ops S j = some c ∧ (if c = some b then zgu IT P o S σ fun a => zeh IT P ops σ pl K (k + 1) l (zn S o.dst a) else zeh IT P ops σ pl K (k + 1) l (zn S o.dst (.raw undef)))))
def zjp : Nat → List Pe → List AV → List AV
 | _, [], S => S
 | n, p :: ps, S => zjp (n + 1) ps (S.set p.d (.ptr n 0))
def zir (σ : St) (ps : List Pe) : St := { σ with boxes := σ.boxes ++ ps.map fun p => (p.t, cellsOf p.v) }
def z8h (IT : IterP) (P : Program) (W : Owed) (ops : Array Oper) (Q : List AV → St → Prop) (S : List AV) (σ : St) : Prop :=
 ∃ n pl, chk ops S.length n = true ∧ zlz ops.toList = true ∧ plOk pl n = true ∧ zeh IT P ops σ pl (fun S' => zb6 IT P W ops Q (ops.toList.drop n) (zjp σ.boxes.length pl S') (zir σ pl)) 0 (ops.toList.take n) S
section
variable {IT : IterP} {P : Program} {M : Option Gen} {F : Fence} {nn B : Nat}
def WB (IT : IterP) (X : Cx) (pl : List Pe) (x : AV) : FwdJ.VP (ghS IT X pl) := fun v (γ : GS X) => Rep IT (zcv X γ.W γ.B) x v
def WN (IT : IterP) (X : Cx) (pl : List Pe) (d : Tmp) : FwdJ.VP (ghS IT X pl) := fun v (γ : GS X) => ∃ b, (d, b) ∈ γ.B ∧ v = .pointer (some ⟨b, 0, none⟩)
theorem zxt (hIT : ITMono IT) {σ : St} {X : Cx} (hI : Inv IT σ X) (pl : List Pe) (x : AV) : FwdJ.Mono (WB IT X pl x) := fun v w w' hg h =>
 zfi hIT (zi9 (fun b i h => hI.Flt h) (fun s b h => hI.κlt (List.mem_of_getElem? h)) hg) _ _ h
theorem wn_mono (X : Cx) (pl : List Pe) (d : Tmp) : FwdJ.Mono (WN IT X pl d) := fun v w w' hg ⟨b, h1, h2⟩ => ⟨b, (show LeS w w' from hg).B _ h1, h2⟩
def zrb (IT : IterP) (X : Cx) (pl : List Pe) (a0 : Act) (acc : FwdJ.Acc (ghS IT X pl)) (S : List AV) (k : Nat) : Prop :=
 (∀ t v (γ : GS X), FwdJ.env a0 acc t v γ → Rep IT (zcv X γ.W γ.B) (zcp S (.tmp t)) v) ∧
 (∀ p ∈ pl, p.al < k → p.d < S.length ∧ S[p.d]? = some .top ∧ ∀ v (γ : GS X), FwdJ.env a0 acc p.d v γ → WN IT X pl p.d v γ)
theorem zhh {G : FwdJ.Gh} {a0 : Act} {acc : FwdJ.Acc G} {d : Option Tmp} {V : FwdJ.VP G} {t : Tmp} : FwdJ.env a0 (FwdJ.accOf acc d V) t = if d = some t then V else FwdJ.env a0 acc t := by
 cases d with
 | none => simp [FwdJ.accOf]
 | some d => simp [FwdJ.accOf, FwdJ.env]
theorem zlq {X : Cx} {pl : List Pe} {a0 : Act} {acc : FwdJ.Acc (ghS IT X pl)} {S : List AV} {k : Nat} (h : zrb IT X pl a0 acc S k) (d : Option Tmp) (x : AV) (hd : (d.all fun d => decide (d < S.length)) = true) (hp : ∀ p ∈ pl, d ≠ some p.d) (hk : ∀ p ∈ pl, p.al ≠ k) :
 zrb IT X pl a0 (FwdJ.accOf acc d (WB IT X pl x)) (zn S d x) (k + 1) := by
 obtain ⟨h1, h2⟩ := h
 refine ⟨fun t v γ he => ?_, fun p hpm hlt => ?_⟩
 ·rw [zhh] at he
  by_cases e : d = some t
  ·subst e
   rw [if_pos rfl] at he
   have hlt : t < S.length := by simpa using hd
   simp only [zn, zcp, List.getElem?_set_self hlt, Option.getD_some]
   exact he
  ·rw [if_neg e] at he
   have : zcp (zn S d x) (.tmp t) = zcp S (.tmp t) := by
    cases d with
    | none => rfl
    | some d => simp only [zn, zcp]; rw [List.getElem?_set_ne (fun h => e (by rw [h]))]
   rw [this]; exact h1 t v γ he
 ·obtain ⟨k1, k2, k3⟩ := h2 p hpm (by have := hk p hpm; omega)
  have hne := hp p hpm
  refine ⟨by rw [zay]; exact k1, ?_, fun v γ he => k3 v γ ?_⟩
  ·cases d with
   | none => exact k2
   | some d => simp only [zn]; rw [List.getElem?_set_ne (fun h => hne (by rw [h]))]; exact k2
  ·rw [zhh, if_neg hne] at he; exact he
theorem zlu {X : Cx} {pl : List Pe} {a0 : Act} {acc : FwdJ.Acc (ghS IT X pl)} {S : List AV} {k : Nat} (h : zrb IT X pl a0 acc S k) {ρ : Operand → Value} {γ : GS X} (hE : Env ρ) {l : List Operand} (hr : FwdJ.All (G := ghS IT X pl) (FwdJ.env a0 acc) ρ γ (zc2 l)) : ∀ x ∈ l, Rep IT (zcv X γ.W γ.B) (zcp S x) (ρ x) := by
 induction l with
 | nil => intro x hx; cases hx
 | cons y l ih =>
  intro x hx
  cases y with
  | tmp t =>
   simp only [zc2, FwdJ.All] at hr
   rcases List.mem_cons.1 hx with rfl | hx
   ·exact h.1 t _ γ hr.1
   ·exact ih hr.2 x hx
  | const v =>
   rcases List.mem_cons.1 hx with rfl | hx
   ·rw [hE.const]; simp only [zcp]
    split
    ·rename_i h; exact zfp v h
    ·rw [Rep]
   ·exact ih hr x hx
  | func f =>
   rcases List.mem_cons.1 hx with rfl | hx
   ·rw [hE.func]; simp only [zcp, Rep]; exact ⟨[], rfl, by rw [za9]⟩
   ·exact ih hr x hx
  | global g =>
   rcases List.mem_cons.1 hx with rfl | hx
   ·rw [hE.global]; simp [zcp, Rep]
   ·exact ih hr x hx
theorem zm0 (hIT : ITMono IT) {σ : St} {X : Cx} (hI : Inv IT σ X) {pl : List Pe} {a0 : Act} {acc : FwdJ.Acc (ghS IT X pl)} {S : List AV} {k : Nat} {o : Oper} {K : AV → Prop} (h : zgu IT P o S σ K) (hA : zrb IT X pl a0 acc S k) (hk : ∀ p ∈ pl, p.al ≠ k ∧ p.st ≠ k) :
 ∃ x, K x ∧ ∀ (ρ : Operand → Value) (γ : GS X) (dn : Nat → Bool), Env ρ → FwdJ.All (G := ghS IT X pl) (FwdJ.env a0 acc) ρ γ (zc2 o.op.operands.toList) → JS IT X pl dn γ → FwdJ.OpGood (G := ghS IT X pl) P (FwdJ.VJ dn k (WB IT X pl x)) γ ((execOp ρ o).run P γ.W) := by
 unfold zgu at h
 have fin : ∀ {x : AV} {v : Value} {γ : GS X} {X' : Cx} (hg : Grows γ.W X'.w), Inv IT σ X' → Rep IT X' x v → X'.κ = X.κ → X'.β = X.β → X'.lens = X.lens → (∀ b i, X'.F b i → (zcv X γ.W γ.B).F b i ∨ γ.W.heap.size ≤ b) → WB IT X pl x v (γ.next X'.w hg) := by
  intro x v γ X' hg h2 h3 h5 h6 h7 h8
  show Rep IT (zcv X X'.w γ.B) x v
  refine zfi hIT (X := X') (X' := zcv X X'.w γ.B) ⟨fun b i hf => ?_, fun _ _ _ => rfl, fun s b hs => by rw [h5] at hs; exact hs, fun s L hs => by rw [h7] at hs; exact ⟨L, hs, Nat.le_refl _, fun _ => by rw [h6]; rfl⟩, fun s b hs cur t f h => ⟨cur, h, rfl⟩, Szs.refl _⟩ _ _ h3
  rcases h8 b i hf with h | h
  ·rcases h with h | ⟨ha, hb, hc⟩
   ·exact .inl h
   ·exact .inr ⟨ha, hb, h2.Fcell b i hf⟩
  ·refine .inr ⟨Nat.le_trans γ.grows.size h, fun p hp e => ?_, h2.Fcell b i hf⟩
   have := γ.hi p hp; omega
 split at h
 ·rename_i f args hc
  obtain ⟨r, hok, hp, hk'⟩ := h
  refine ⟨r, hk', fun ρ γ dn hE hr hJ => ?_⟩
  have hρ := zlu hA hE hr
  obtain ⟨vs, hrun, hrr⟩ := zgm (IT := IT) (P := P) (X := zcv X γ.W γ.B) hc (fun x hx => hρ x (by simpa using hx)) hp.1
  rw [show (execOp ρ o).run P γ.W = _ from hrun]
  refine (ziu hIT hp rfl hok (zge hIT hI γ.B γ.grows) hrr).mono ?_
  rintro e w' ⟨v, X', rfl, rfl, h1, h2, h3, h4, h5, h6, h7, hO, h8⟩
  exact ⟨v, rfl, γ.next X'.w h4, rfl, LeS.of_grows γ X'.w h4, fin h4 h2 h3 h5 h6 h7 h8, zwk hIT hI hJ hk h4⟩
 ·obtain ⟨x, hx, h⟩ := h
  refine ⟨x, h, fun ρ γ dn hE hr hJ => ?_⟩
  have hρ := zlu hA hE hr
  obtain ⟨v, X', h1, h2, h3, h4, h5, h6, h7, h8, hO, h9⟩ := zmi hIT (X := zcv X γ.W γ.B) hx (fun x hx => hρ x (by simpa using hx)) (zge hIT hI γ.B γ.grows)
  rw [show (execOp ρ o).run P γ.W = _ from h1]
  exact ⟨γ.next X'.w h5, rfl, LeS.of_grows γ X'.w h5, fin h5 h3 h4 h6 h7 h8 h9, zwk hIT hI hJ hk h5⟩
theorem z2y {γ : World} {ρ : Operand → Value} {o : Oper} {t : TypeId} {z : Value} (ho : o.op = .alloc t) (hz : zhm P t = some z) : (execOp ρ o).run P γ = .ok (.value (.pointer (some ⟨γ.heap.size, 0, none⟩))) (γ.alloc (.cells z.cells t)) := by
 obtain ⟨⟨i, hi, hz'⟩, _, _⟩ := zj1 hz
 have hrun : (Instr.alloc t true (.tuple #[])).run P γ = .ok (.pointer (some ⟨γ.heap.size, 0, none⟩)) (γ.alloc (.cells z.cells t)) := by
  have : (Instr.alloc t true (.tuple #[])).run P γ = (Instr.box t z).run P γ := by
   simp [Instr.alloc, Instr.box, zf3 hi hz']
  rw [this]
  simp only [Instr.box, Sem.run_bind, zji, Result.andThen_ok, Sem.run_pure]
 simp [execOp, ho, hrun]
theorem z3a {W : World} {ρ : Operand → Value} {o : Oper} {t : TypeId} {x y : Operand} {b n : Nat} {cur : Array Value} (ho : o.op = .store t x y) (hx : ρ x = .pointer (some ⟨b, 0, none⟩)) (hn : zec P t = some n) (hb : W.heap[b]? = some (.cells cur t (0, 0))) (hc : cur.size = n) (hv : (ρ y).cells.size = n)
 (h1 : ∀ u ∈ (ρ y).cells.toList, u.oneCell' = true) : (execOp ρ o).run P W = .ok .skip (W.setRow b (ρ y).cells.toList.toArray) := by
 have hst := run_storeCells_at P b 0 t (ρ y).cells.toList 0 cur W hb (by simp; omega) h1
 simp only [Nat.add_zero, List.take_zero, List.nil_append, Nat.zero_add, Array.length_toList] at hst
 have hd : cur.toList.drop (ρ y).cells.size = [] := List.drop_of_length_le (by simp; omega)
 rw [hd, List.append_nil] at hst
 have : (Instr.storeAt t (ρ x) (ρ y)).run P W = .ok () (W.setRow b (ρ y).cells.toList.toArray) := by
  simp only [Instr.storeAt, Instr.sureAddr, storeVar, Sem.run_bind, Sem.run_pure, Result.andThen_ok, ze5 hn, hv, hx]
  simpa using hst
 simp [execOp, ho, this]
theorem zgb (hIT : ITMono IT) {σ : St} {X : Cx} (hI : Inv IT σ X) {ops : Array Oper} {a0 : Act} {pl : List Pe} {n : Nat} (hpl : plOk pl n = true) {K : List AV → Prop} {fin : FwdJ.Acc (ghS IT X pl) → Prop} {γ0 : GS X}
 (hfin : ∀ S acc, K S → S.length = a0.tmps.size → zrb IT X pl a0 acc S n → fin acc) :
 ∀ (l : List Oper) (k : Nat) (S : List AV) (acc : FwdJ.Acc (ghS IT X pl)), k + l.length = n → zeh IT P ops σ pl K k l S → S.length = a0.tmps.size → zrb IT X pl a0 acc S k → FwdJ.FwdGo (G := ghS IT X pl) P ops γ0 a0 fin l k acc
 | [], k, S, acc, hn, h, hl, hA => hfin S acc h hl (by simp at hn; subst hn; exact hA)
 | o :: l, k, S, acc, hn, h, hl, hA => by
  simp only [plOk, Bool.and_eq_true, decide_eq_true_eq, List.all_eq_true] at hpl
  obtain ⟨⟨⟨hd1, ha1⟩, hs1⟩, hlt1⟩ := hpl
  have hpl' : plOk pl n = true := by simp only [plOk, Bool.and_eq_true, decide_eq_true_eq, List.all_eq_true]; exact ⟨⟨⟨hd1, ha1⟩, hs1⟩, hlt1⟩
  have hn' : k + 1 + l.length = n := by simp at hn; omega
  simp only [zeh] at h
  obtain ⟨hd, h⟩ := h
  rcases h with ⟨p, hp, rfl, hg, ho, hdst, hz, hk⟩ | ⟨p, hp, rfl, hlt, hg, hdst, ⟨y, ho, hy⟩, hco, hsz, hcl, haft, hk⟩ | ⟨hno, h⟩
  ·have hdl : p.d < S.length := by rw [hdst] at hd; simpa using hd
   refine ⟨WN IT X pl p.d, wn_mono X pl p.d, fun ρ γ dn hE hgr hr hJ hdn haf => ?_, ?_⟩
   ·rw [hg]
    simp only
    obtain ⟨γ', e1, e2, e3, e4⟩ := z5k hIT hI (γ := γ) (dn := dn) hJ hp hdn (fun q hq e => zgf _ _ hd1 q hq p hp e) (fun q hq e => zgf _ _ ha1 q hq p hp e) (fun q hq e => ((hlt1 p hp).2 q hq) e.symm)
    rw [show (execOp ρ o).run P ((ghS IT X pl).π γ) = _ from z2y (P := P) ho hz]
    exact ⟨γ', e1, e2, ⟨_, e3, rfl⟩, e4⟩
   ·rw [hdst]
    refine zgb hIT hI hpl' hfin l _ _ _ hn' hk (by rw [List.length_set]; exact hl) ⟨fun t v γ he => ?_, fun q hq hlt => ?_⟩
    ·rw [zhh] at he
     by_cases e : p.d = t
     ·subst e
      simp only [zcp, List.getElem?_set_self hdl, Option.getD_some]
      rw [Rep]; trivial
     ·rw [if_neg (fun h => e (Option.some.inj h))] at he
      simp only [zcp]
      rw [List.getElem?_set_ne e]; exact hA.1 t v γ he
    ·by_cases e : q = p
     ·subst e
      refine ⟨by rw [List.length_set]; exact hdl, List.getElem?_set_self hdl, fun v γ he => ?_⟩
      rw [zhh, if_pos rfl] at he; exact he
     ·have hqa : q.al ≠ p.al := fun h => e (zgf (fun x : Pe => x.al) _ ha1 q hq p hp h)
      have hqd : p.d ≠ q.d := fun h => e (zgf (fun x : Pe => x.d) _ hd1 q hq p hp h.symm)
      obtain ⟨k1, k2, k3⟩ := hA.2 q hq (by omega)
      refine ⟨by rw [List.length_set]; exact k1, by rw [List.getElem?_set_ne hqd]; exact k2, fun v γ he => k3 v γ ?_⟩
      rw [zhh, if_neg (fun h => hqd (Option.some.inj h))] at he; exact he
  ·refine ⟨fun _ _ => True, fun _ _ _ _ _ => trivial, fun ρ γ dn hE hgr hr hJ hdn haf => ?_, ?_⟩
   ·rw [hg]
    simp only
    have hal : dn p.al = true := by
     obtain ⟨e, he, hb⟩ := List.any_eq_true.1 haft
     simp only [Bool.and_eq_true, decide_eq_true_eq] at hb
     have := haf e (Array.mem_toList_iff.1 he) hb.1
     rw [hb.2] at this; exact this
    have hops : o.op.operands.toList = [.tmp p.d, y] := by rw [ho]; rfl
    rw [hops] at hr
    have hρ := zlu hA hE hr
    have hry : Rep IT (zcv X γ.W γ.B) p.v (ρ y) := by rw [← hy]; exact hρ y (by simp)
    obtain ⟨c1, c2⟩ := zio hco hry
    have henv : FwdJ.env a0 acc p.d (ρ (.tmp p.d)) γ := by
     simp only [zc2, FwdJ.All] at hr
     exact hr.1
    obtain ⟨b, hb, hpb⟩ := (hA.2 p hp hlt).2.2 _ γ henv
    obtain ⟨hz, γ', e1, e2, e3⟩ := z5a hIT hI (γ := γ) (dn := dn) hJ hp hdn hal (fun q hq e => zgf _ _ hd1 q hq p hp e) (fun q hq e => zgf _ _ hs1 q hq p hp e) (fun q hq => (hlt1 q hq).2 p hp) hb c1 c2 (by have hlen := zq c1; simp at hlen ⊢; omega)
    have hlen := zq c1
    rw [show (execOp ρ o).run P ((ghS IT X pl).π γ) = _ from z3a (P := P) ho hpb hsz hz rfl (by simp at hlen; omega) c2]
    exact ⟨γ', e1, e2, trivial, e3⟩
   ·rw [hdst]
    exact zgb hIT hI hpl' hfin l _ _ _ hn' hk hl ⟨hA.1, fun q hq hlt' => hA.2 q hq (by
     have := (hlt1 q hq).2 p hp
     omega)⟩
  ·have hno' : ∀ p ∈ pl, (p.al ≠ k ∧ p.st ≠ k) ∧ o.dst ≠ some p.d := fun p hp => by
    have := List.all_eq_true.1 hno p hp
    simpa using this
   cases hg : o.guard with
   | none =>
    rw [hg] at h
    obtain ⟨x, hk, hs⟩ := zm0 (P := P) hIT hI h hA (fun p hp => (hno' p hp).1)
    exact ⟨WB IT X pl x, zxt hIT hI pl x, fun ρ γ dn hE hgr hr hJ hdn haf => by rw [hg]; exact hs ρ γ dn hE hr hJ, zgb hIT hI hpl' hfin l _ _ _ hn' hk (by rw [zay]; exact hl) (zlq hA o.dst x hd (fun p hp => (hno' p hp).2) (fun p hp => (hno' p hp).1.1))⟩
   | some kb =>
    obtain ⟨j, b⟩ := kb
    rw [hg] at h
    obtain ⟨c, hc, h⟩ := h
    obtain ⟨d, u, hdk, hsd, hcu⟩ : ∃ d u, za6 ops j = some d ∧ S[d]? = some (.raw u) ∧ ∀ t, u = .bool t ↔ c = some t := by
     unfold zea at hc
     split at hc <;> try cases hc
     rename_i d hd'
     split at hc <;> cases hc
     ·rename_i c' hs
      exact ⟨d, _, hd', hs, fun t => by simp⟩
     ·rename_i u hne hs
      exact ⟨d, u, hd', hs, fun t => ⟨fun e => absurd e (hne t), fun e => by cases e⟩⟩
    have hgv : ∀ g (γ : GS X), FwdJ.env a0 acc d g γ → g = u := fun g γ he => by
     have := hA.1 d g γ he
     simp only [zcp, hsd, Option.getD_some] at this
     rw [Rep] at this; exact this
    by_cases e : c = some b
    ·rw [if_pos e] at h
     obtain ⟨x, hk, hs⟩ := zm0 (P := P) hIT hI h hA (fun p hp => (hno' p hp).1)
     refine ⟨WB IT X pl x, zxt hIT hI pl x, fun ρ γ dn hE hgr hr hJ hdn haf => ?_, zgb hIT hI hpl' hfin l _ _ _ hn' hk (by rw [zay]; exact hl) (zlq hA o.dst x hd (fun p hp => (hno' p hp).2) (fun p hp => (hno' p hp).1.1))⟩
     rw [hg]
     exact ⟨d, hdk, fun g he => ⟨fun _ => hs ρ γ dn hE hr hJ, fun hne => absurd (by rw [hgv g γ he, (hcu b).2 e]) hne⟩⟩
    ·rw [if_neg e] at h
     refine ⟨WB IT X pl (.raw undef), zxt hIT hI pl _, fun ρ γ dn hE hgr hr hJ hdn haf => ?_, zgb hIT hI hpl' hfin l _ _ _ hn' h (by rw [zay]; exact hl) (zlq hA o.dst _ hd (fun p hp => (hno' p hp).2) (fun p hp => (hno' p hp).1.1))⟩
     rw [hg]
     refine ⟨d, hdk, fun g he => ⟨fun hb => ?_, fun _ => ⟨by show Rep _ _ _ _; rw [Rep], ?_⟩⟩⟩
     ·rw [hgv g γ he] at hb
      exact absurd ((hcu b).1 hb) e
     ·exact zwk hIT hI (γ := γ) hJ (fun p hp => (hno' p hp).1) (Grows.refl _)
end
end Go.Ab
set_option linter.unusedSimpArgs false
set_option linter.unusedVariables false
namespace Go.Ab
open Go Go.RowKit Go.Fwd
section
variable {IT : IterP} {P : Program} {M : Option Gen} {F : Fence} {nn B : Nat}
theorem zpj (hIT : ITMono IT) {X : Cx} {tmps : Array Value} : ∀ (ps : List Pe) (σ : St) (Y : Cx) (S : List AV), Ext X Y → Inv IT σ Y → zlp IT Y S tmps →
 (∀ p ∈ ps, p.d < S.length ∧ ∃ (b : Nat) (us : List Value), tmps[p.d]? = some (.pointer (some ⟨b, 0, none⟩)) ∧ Y.w.heap[b]? = some (.cells us.toArray p.t (0, 0)) ∧ za9 IT Y (cellsOf p.v) us ∧ (∀ u ∈ us, u.oneCell' = true) ∧ X.w.heap.size ≤ b ∧ (∀ o, ¬ Y.F b o) ∧ b ∉ Y.κ ∧ (∀ r ∈ Y.β, r.block ≠ b) ∧ ¬ Y.O b) →
 (ps.Pairwise fun p q => tmps[p.d]? ≠ tmps[q.d]?) →
 ∃ Y', Ext X Y' ∧ Inv IT (zir σ ps) Y' ∧ zlp IT Y' (zjp σ.boxes.length ps S) tmps ∧ Y'.w = Y.w
 | [], σ, Y, S, hE, hI, hr, _, _ => ⟨Y, hE, by simpa [zir] using hI, hr, rfl⟩
 | p0 :: ps, σ, Y, S, hE, hI, hr, hp, hpw => by
  obtain ⟨hd, b, us, h1, h2, k1, k2, h3, h4, h5, h6, h7⟩ := hp p0 List.mem_cons_self
  have hI2 := zra hIT hI (b := b) (t := p0.t) (us := us) h2 k1 k2 h4 h5 h6 h7
  have hS := zmk Y b
  have hr2 : zlp IT { Y with κ := Y.κ ++ [b] } (S.set p0.d (.ptr σ.boxes.length 0)) tmps := by
   have hlen := zq hr
   refine zes (by rw [List.length_set]; exact hlen) fun i x v e1 e2 => ?_
   by_cases e : p0.d = i
   ·subst e
    rw [List.getElem?_set_self hd] at e1
    cases e1
    rw [Rep]
    have : v = .pointer (some ⟨b, 0, none⟩) := by
     have e3 : tmps[p0.d]? = some v := by simpa using e2
     rw [h1] at e3; cases e3; rfl
    refine ⟨b, ?_, this⟩
    show (Y.κ ++ [b])[σ.boxes.length]? = _
    rw [← hI.κlen]; simp
   ·rw [List.getElem?_set_ne e] at e1
    obtain ⟨v', hv', hrr⟩ := zdv hr i x e1
    rw [hv'] at e2; cases e2
    exact zfi hIT hS _ _ hrr
  rw [List.pairwise_cons] at hpw
  obtain ⟨Y', g1, g2, g3, g4⟩ := zpj hIT ps { σ with boxes := σ.boxes ++ [(p0.t, cellsOf p0.v)] } { Y with κ := Y.κ ++ [b] } (S.set p0.d (.ptr σ.boxes.length 0)) (zq0 hE h3) hI2 hr2 (fun p hpm => by
   obtain ⟨q2, b', us', q3, q4, m1, m2, q5, q6, q7, q8, q9⟩ := hp p (List.mem_cons_of_mem _ hpm)
   refine ⟨by rw [List.length_set]; exact q2, b', us', q3, q4, zbz hIT hS _ _ m1, m2, q5, q6, fun hm => ?_, q8, q9⟩
   rcases List.mem_append.1 hm with hm | hm
   ·exact q7 hm
   ·simp at hm; subst hm
    exact hpw.1 p hpm (by rw [h1, q3])) hpw.2
  refine ⟨Y', g1, ?_, ?_, g4⟩
  ·have e : zir { σ with boxes := σ.boxes ++ [(p0.t, cellsOf p0.v)] } ps = zir σ (p0 :: ps) := by simp [zir]
   rw [← e]; exact g2
  ·simpa [zjp] using g3
theorem zvm (hIT : ITMono IT) (hF : FenceOk F P) (hG : zvd P B M) (hmix : P.follows .mixedOrders = true) {id : Nat} {ops : Array Oper} {Q : List AV → St → Prop} {K : Exit → Act → World → Prop} {X0 X : Cx} {S : List AV} {σ : St} {a : Act}
 (hQ : ∀ S σ X a, Q S σ → Now IT M F B X0 S σ X a → K .normal a X.w) (h : z8h IT P (zdb M) ops Q S σ) (hn : Now IT M F B X0 S σ X a) : (Code.region id ops true).wpIn F nn P K a X.w := by
 obtain ⟨l, rfl⟩ : ∃ l : List Oper, ops = l.toArray := ⟨ops.toList, by simp⟩
 obtain ⟨n, pl, hc, hnd, hpl, h⟩ := h
 simp only [List.toList_toArray] at hnd h
 have hlen : S.length = a.tmps.size := by have := zq hn.reps; simpa using this
 have hpl0 := hpl
 simp only [plOk, Bool.and_eq_true, decide_eq_true_eq, List.all_eq_true] at hpl
 obtain ⟨⟨⟨hd1, ha1⟩, hs1⟩, hlt1⟩ := hpl
 have hnl : n ≤ l.length := by
  simp only [chk, Bool.and_eq_true, decide_eq_true_eq] at hc
  simpa using hc.1.1.2
 have htk : (l.take n).length = n := by simp; omega
 obtain ⟨γ0, hγ0⟩ : ∃ γ0 : GS X, γ0 = ⟨X.w, [], fun _ h => (by cases h), fun _ h => (by cases h), fun _ h => (by cases h), fun _ h => (by cases h), Grows.refl _⟩ := ⟨_, rfl⟩
 have hπ : (ghS IT X pl).π γ0 = X.w := by rw [hγ0]; rfl
 have hd0 : Grows X.w { X.w with drawn := X.w.drawn + 1 } := (Grows.refl _).drew
 have hd0' : Grows γ0.W { X.w with drawn := X.w.drawn + 1 } := by rw [hγ0]; exact hd0
 have key := FwdJ.wpIn_region_fwd (G := ghS IT X pl) (F := F) (nn := nn) (P := P) (id := id) (Q := K) (a := a) (w := γ0) (w1 := γ0.next { X.w with drawn := X.w.drawn + 1 } hd0') (l := l) hF n (by rw [hπ]; rfl) (LeS.of_grows γ0 _ hd0')
  (fun d hd => by
   refine ⟨fun q hq => ?_, fun p hp => ?_⟩
   ·have : q ∈ γ0.B := hq
    rw [hγ0] at this; cases this
   ·obtain ⟨⟨k1, k2⟩, _⟩ := hlt1 p hp
    have e1 := hd p.al (by omega)
    have e2 := hd p.st (by omega)
    exact ⟨fun h => (by rw [e2] at h; cases h), fun h => (by rw [e1] at h; cases h)⟩) hmix
  (fun o ho c e => by
   have := List.all_eq_true.1 hnd o ho
   rw [e] at this; cases this)
  (by rw [← hlen]; exact hc)
  (zgb (P := P) (γ0 := γ0) (K := fun S' => zb6 IT P (zdb M) l.toArray Q (l.drop n) (zjp σ.boxes.length pl S') (zir σ pl)) hIT hn.inv hpl0 (fun S' acc hk hl hA (γ : (ghS IT X pl).Γ) hle hJ => FwdJ.endAt_all (G := ghS IT X pl) (w := γ) fun a' h1 h2 h3 => ?_)
   (l.take n) 0 S [] (by rw [htk]; omega) h hlen ⟨fun t v γ he => by
    have e : v = a.eval (.tmp t) := he
    subst e
    exact zsg hIT (zha hn.inv γ.B γ.grows) _ _ (zib hn.reps (.tmp t)), fun p hp hlt => by omega⟩)
 ·rw [hπ] at key; exact key
 have hE := zha hn.inv γ.B γ.grows
 obtain ⟨dn, hdn, hJ⟩ := hJ
 have hJ : JS IT X pl dn γ := hJ
 have hev : ∀ i, i < a.tmps.size → FwdJ.env a acc i (a'.eval (.tmp i)) γ := fun i hi => h3 i hi
 have hval : ∀ i (hi : i < a.tmps.size), a'.tmps[i]? = some (a'.eval (.tmp i)) := fun i hi => by
  have : i < a'.tmps.size := by omega
  simp [Act.eval, this]
 have hrs : zlp IT (zcv X γ.W γ.B) S' a'.tmps := zes (by simp [hl, h1]) fun i x v e1 e2 => by
  have hi : i < a.tmps.size := by have := (List.getElem?_eq_some_iff.1 e1).1; omega
  have := hA.1 i (a'.eval (.tmp i)) γ (hev i hi)
  have ev : a'.eval (.tmp i) = v := by
   have h := hval i hi
   have e3 : a'.tmps[i]? = some v := by simpa using e2
   rw [e3] at h; cases h; rfl
  rw [ev] at this
  simpa only [zcp, e1, Option.getD_some] using this
 have hpb : ∀ p ∈ pl, p.d < S'.length ∧ ∃ (b : Nat) (us : List Value), (p.d, b) ∈ γ.B ∧ a'.tmps[p.d]? = some (.pointer (some ⟨b, 0, none⟩)) ∧ γ.W.heap[b]? = some (.cells us.toArray p.t (0, 0)) ∧ za9 IT (zcv X γ.W γ.B) (cellsOf p.v) us ∧ ∀ u ∈ us, u.oneCell' = true := fun p hp => by
  obtain ⟨⟨q1, q2⟩, _⟩ := hlt1 p hp
  obtain ⟨k1, k2, k3⟩ := hA.2 p hp (by omega)
  have hi : p.d < a.tmps.size := by rw [← hl]; exact k1
  obtain ⟨b, b1, b2⟩ := k3 _ γ (hev p.d hi)
  obtain ⟨b', c1, c2⟩ := (hJ.2 p hp).2 (hdn _ (by omega))
  have hbb : b' = b := by have := γ.ud _ c1 _ b1 rfl; simpa using this
  subst hbb
  rcases c2 with ⟨c2, _⟩ | ⟨_, us, c3, c4, c5⟩
  ·rw [hdn _ q2] at c2; cases c2
  ·exact ⟨k1, b', us, b1, by rw [hval p.d hi, b2], c3, c4, c5⟩
 have hlt : ∀ {b : Nat}, X.w.heap.size ≤ b → b ∉ X.κ := fun hb hm => by have := hn.inv.κlt hm; omega
 obtain ⟨Y', g1, g2, g3, g4⟩ := zpj hIT (X := X) (tmps := a'.tmps) pl σ (zcv X γ.W γ.B) S' hE (zge hIT hn.inv γ.B γ.grows) hrs
  (fun p hp => by
   obtain ⟨k1, b, us, b1, b2, b3, b4, b5⟩ := hpb p hp
   have hb := γ.lo _ b1
   refine ⟨k1, b, us, b2, b3, b4, b5, hb, fun o hf => ?_, hlt hb, fun r hr e => ?_, fun ho => ?_⟩
   ·rcases hf with hf | ⟨_, hf, _⟩
    ·have := hn.inv.Flt hf; simp only at hb; omega
    ·exact hf _ b1 rfl
   ·have := hn.inv.βlt hr; simp only at hb; omega
   ·have := hn.inv.Olt ho; simp only at hb; omega)
  (by
   rw [List.nodup_iff_pairwise_ne, List.pairwise_map] at hd1
   refine List.Pairwise.imp_of_mem (fun {p q} hp hq hne e => ?_) hd1
   obtain ⟨_, b, _, b1, b2, _⟩ := hpb p hp
   obtain ⟨_, b', _, b1', b2', _⟩ := hpb q hq
   rw [b2, b2'] at e
   have eb : b = b' := by simpa using e
   have := γ.nd _ b1 _ b1' eb
   exact hne ((Prod.mk.inj this).1))
 have hnow : Now IT M F B X0 (zjp σ.boxes.length pl S') (zir σ pl) Y' a' := ⟨hn.ext.trans (Rel.of g1), g2, g3, by rw [h2]; exact hn.marks.ext g1 hn.inv, FrM.ext hG hn.frn g1 hn.inv rfl rfl⟩
 have := zfd (nn := nn) hIT hF hG hQ (l.drop n) _ _ Y' a' hk hnow
 rw [g4] at this
 exact this
end
end Go.Ab
