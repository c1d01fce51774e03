/-
  RxnormCounts: its plain law.
-/
import Derived.Test.YtmoncghgagmilaaZnNf
import Derived.Test.YtmoncghgagmilaaZdQq
import Derived.Test.YtmoncghgagmilaaZnV3
import Derived.Test.YtmoncghgagmilaaZnW1
import Derived.Test.YtmoncghgagmilaaZnX3
set_option linter.unusedSimpArgs false
set_option linter.unusedVariables false
namespace Go.Ab
open Go Go.RowKit Go.Fwd Go.Proofs
def GdT (t : Tr) : Prop := CR t ∧ (pre t).length ≤ 10000
def GdL (l : List Tr) : Prop := ∀ x ∈ l, GdT x
theorem GdT.eqB {x y : Tr} (hx : GdT x) (hy : GdT y) (h : zge x y = 0) : x = y := zwk x y hx.1 hy.1 h
theorem zyw {x y : Tr} (hx : GdT x) : zd0 x y = true ↔ x = y := by
 constructor
 ·intro h
  rw [zd0, Bool.and_eq_true] at h
  exact (zi0 _ _).1 h.2
 ·rintro rfl
  exact zoa (zkw hx.2)
theorem zwz {x y z : Tr} (hx : GdT x) (hy : GdT y) (hz : GdT z) (h : zge x y < 0) (k : zge y z ≤ 0) : zge x z < 0 := by
 have h1 := ze2 x y z (by omega) k
 have h2 := zen x y
 rcases Int.lt_or_eq_of_le h1 with h3 | h3
 ·exact h3
 ·have := hx.eqB hz h3
  subst this; omega
theorem zh7 : ∀ (l : List Tr) (p : Tr), GdT p → GdL l → (p :: l).Pairwise (fun x y => zge x y ≤ 0) → (p :: ze3 p l).Pairwise (fun x y => zge x y < 0) ∧ ∀ z, z ∈ p :: ze3 p l ↔ z ∈ p :: l
 | [], p, _, _, _ => by simp [ze3]
 | y :: l, p, hp, hl, hs => by
  obtain ⟨s1, s2⟩ := List.pairwise_cons.1 hs
  have hy := hl y (by simp)
  have hl' : GdL l := fun z hz => hl z (by simp [hz])
  unfold ze3
  by_cases hb : zd0 y p = true
  ·rw [if_pos hb]
   have e := (zyw hy).1 hb
   subst e
   obtain ⟨h1, h2⟩ := zh7 l y hy hl' s2
   exact ⟨h1, fun z => by rw [h2 z]; simp⟩
  ·rw [if_neg hb]
   obtain ⟨h1, h2⟩ := zh7 l y hy hl' s2
   have hpy : zge p y < 0 := by
    have := s1 y (by simp)
    rcases Int.lt_or_eq_of_le this with h | h
    ·exact h
    ·exact absurd ((zyw hy).2 (hp.eqB hy h).symm) hb
   refine ⟨List.pairwise_cons.2 ⟨fun z hz => ?_, h1⟩, fun z => by rw [List.mem_cons, h2 z]; simp⟩
   have hzl := (h2 z).1 hz
   rcases List.mem_cons.1 hz with rfl | hz'
   ·exact hpy
   ·have := (List.pairwise_cons.1 h1).1 z hz'
    refine zwz hp hy ?_ hpy (by omega)
    rcases List.mem_cons.1 hzl with rfl | h
    ·exact hy
    ·exact hl' z h
def zn8 (l : List Tr) : List Tr := zfr (zgd l)
theorem zjo {l : List Tr} (h : GdL l) : (zn8 l).Pairwise (fun x y => zge x y < 0) ∧ ∀ z, z ∈ zn8 l ↔ z ∈ l := by
 have hp := zdd l
 have hs := zmt l
 unfold zn8
 rcases hq : zgd l with _ | ⟨p, m⟩
 ·rw [hq] at hp; have e := hp.nil_eq; subst e; simp [zfr]
 ·rw [hq] at hp hs
  have hg : ∀ z ∈ p :: m, GdT z := fun z hz => h z (hp.subset hz)
  obtain ⟨h1, h2⟩ := zh7 m p (hg p (by simp)) (fun z hz => hg z (by simp [hz])) hs
  exact ⟨h1, fun z => (h2 z).trans hp.mem_iff⟩
theorem zh9 : ∀ {l m : List Tr}, l.Pairwise (fun x y => zge x y < 0) → m.Pairwise (fun x y => zge x y < 0) → (∀ z, z ∈ l ↔ z ∈ m) → l = m
 | [], [], _, _, _ => rfl
 | [], b :: m, _, _, h => absurd ((h b).2 (by simp)) (by simp)
 | a :: l, [], _, _, h => absurd ((h a).1 (by simp)) (by simp)
 | a :: l, b :: m, hl, hm, h => by
  obtain ⟨l1, l2⟩ := List.pairwise_cons.1 hl
  obtain ⟨m1, m2⟩ := List.pairwise_cons.1 hm
  have e : a = b := by
   rcases List.mem_cons.1 ((h a).1 (by simp)) with e | ha
   ·exact e
   ·rcases List.mem_cons.1 ((h b).2 (by simp)) with e | hb
    ·exact e.symm
    ·have := l1 b hb; have := m1 a ha; have := zen a b; omega
  subst e
  have key : ∀ z, z ∈ l ↔ z ∈ m := fun z => by
   constructor
   ·intro hz
    rcases List.mem_cons.1 ((h z).1 (by simp [hz])) with e | hm
    ·have := l1 z hz; rw [e, zs3] at this; omega
    ·exact hm
   ·intro hz
    rcases List.mem_cons.1 ((h z).2 (by simp [hz])) with e | hm
    ·have := m1 z hz; rw [e, zs3] at this; omega
    ·exact hm
  rw [zh9 l2 m2 key]
theorem z2b {l m : List Tr} (hl : GdL l) (h : ∀ z, z ∈ l ↔ z ∈ m) : zn8 l = zn8 m := by
 have hm : GdL m := fun z hz => hl z ((h z).2 hz)
 obtain ⟨a1, a2⟩ := zjo hl
 obtain ⟨b1, b2⟩ := zjo hm
 exact zh9 a1 b1 fun z => by rw [a2, b2, h]
theorem zzn {l : List Tr} (hl : GdL l) (h : l.Pairwise (fun x y => zge x y < 0)) : zn8 l = l := by
 obtain ⟨a1, a2⟩ := zjo hl
 exact zh9 a1 h a2
theorem zq4 {l : List Tr} {z : Tr} : z ∈ zb4 l ↔ z ∈ l ∧ z.k ≠ 2 ∧ z.k ≠ 1 := by
 unfold zb4; rw [List.mem_filter]; simp
theorem zuo (i : Nat) : ∀ (l : List Tr) (s : BS), (l.foldl (fun s x => if x.k = 2 then s ||| x.s else s) s).getLsbD i = (s.getLsbD i || l.any fun x => decide (x.k = 2) && x.s.getLsbD i)
 | [], s => by simp
 | x :: l, s => by
  rw [List.foldl_cons, zuo i l, List.any_cons]
  by_cases hk : x.k = 2
  ·simp [hk, Bool.or_assoc]
  ·simp [hk]
theorem zx1 {l : List Tr} (h : GdL l) : GdL (za9 l) := by
 intro z hz
 unfold za9 zsz at hz
 rcases List.mem_append.1 hz with hz | hz
 ·exact h z (zq4.1 hz).1
 ·split at hz
  ·cases hz
  ·rename_i hb
   rw [List.mem_singleton.1 hz]
   exact ⟨z2a hb, by simp [pre, zam]⟩
theorem zjj : ∀ {l : List Tr}, (∀ x ∈ l, x.k ≠ 4) → zbz 4 l = l
 | [], _ => rfl
 | x :: l, h => by
  have hx := h x (by simp)
  have e : ((x.k : Int) == ((4 : Nat) : Int)) = false := by simp; omega
  have e1 : ((((4 : Nat) : Int) == 3) && ((x.k : Int) == 1)) = false := by simp
  rw [zdt, e, cond_false, e1, cond_false, zjj fun y hy => h y (by simp [hy])]; rfl
theorem z8f {x : Tr} (hc : CR x) (hk : x.k ≠ 4) (hs : (pre x).length ≤ 1000) : orT [x] = x := by
 rw [z2x ((zao _ _).2 ⟨hc, zb0⟩) (by simp) (by simpa [zam] using hs), zjj (by simpa using hk)]; rfl
theorem or_many {a b : Tr} {l : List Tr} (hc : CRL (a :: b :: l)) (hk : ∀ x ∈ a :: b :: l, x.k ≠ 4) (hs : (zam (a :: b :: l)).length ≤ 1000) : orT (a :: b :: l) = .mk 4 0#256 0 0 (a :: b :: l) := by
 rw [z2x hc (by simp) hs, zjj hk, zdn]
theorem zlo {l : List Tr} {z : Tr} : z ∈ za9 l ↔ (z ∈ l ∧ z.k ≠ 2 ∧ z.k ≠ 1) ∨ (zdx l ≠ 0#256 ∧ z = .mk 2 (zdx l) 0 0 []) := by
 unfold za9 zsz
 rw [List.mem_append, zq4]
 split
 ·rename_i h; simp [h]
 ·rename_i h; simp [h]
theorem gd_of {l : List Tr} {n : Nat} (h : CLn n l) (hn : n ≤ 10000) : GdL l := fun z hz => ⟨(h.mem hz).1, by have := (h.mem hz).2; omega⟩
theorem NFL.cln {l : List Tr} {n : Nat} (h : NFL l) (hs : (zam l).length ≤ n) : CLn n l := ⟨h.crl, hs⟩
theorem z6n {x : Tr} (hc : CR x) (hk : x.k ≠ 4) (hs : (pre x).length ≤ 999) : zy4 [x] = x := by
 by_cases h1 : x.k = 1
 ·have e := z3m hc h1
  subst e
  have : za9 [emptyT] = [] := by simp [za9, zb4, zdx, zsz, emptyT, Tr.k]
  unfold zy4
  rw [this, if_pos (show zbg [emptyT] = true by simp [zbg, emptyT, Tr.k]), show zfr (zgd ([] : List Tr)) = [] from rfl, zyo, if_pos (show noneT.k = 0 from rfl)]
 ·have he : zbg [x] = false := by simp [zbg, h1]
  have hp : za9 [x] = [x] := by
   by_cases h2 : x.k = 2
   ·have hx : x = .mk 2 x.s 0 0 [] := by
     have hr := ((zbc x).1 hc).1
     obtain ⟨k, s, mn, mx, l⟩ := x
     simp only [Tr.k] at h2; subst h2
     rw [zcj, zg8] at hr
     simp at hr
     obtain ⟨⟨⟨q1, q2⟩, q3⟩, _⟩ := hr
     subst q1 q2
     rw [show l = [] by simpa using q3]; rfl
    have hb : zdx [x] = x.s := by simp [zdx, h2]
    have ho : zb4 [x] = [] := by simp [zb4, h2]
    rw [za9, ho, hb, zsz, if_neg (z1v hc h2), List.nil_append, ← hx]
   ·simp [za9, zb4, zdx, zsz, h1, h2]
  unfold zy4
  rw [he, if_neg (by decide), hp]
  show orT [x] = x
  exact z8f hc hk (by omega)
theorem nf_altP {m : List Tr} (h : NFL m) (hk : ∀ x ∈ m, x.k ≠ 4) (hne : m ≠ []) (hs : (zam m).length ≤ 998) : NF (zy4 m) := by
 have hcl : CLn 998 m := h.cln hs
 have hgd : GdL m := gd_of hcl (by omega)
 obtain ⟨p1, p2⟩ := zsm hcl
 have hpn : NFL (za9 m) := fun z hz => by
  rcases zlo.1 hz with q | ⟨q1, q2⟩
  ·exact h z q.1
  ·rw [q2]; exact nf_cls q1
 have hpk : ∀ z ∈ za9 m, z.k ≠ 4 ∧ z.k ≠ 1 := fun z hz => by
  rcases zlo.1 hz with q | ⟨q1, q2⟩
  ·exact ⟨hk z q.1, q.2.2⟩
  ·rw [q2]; simp [Tr.k]
 have hpg := zx1 hgd
 obtain ⟨s1, s2⟩ := zjo hpg
 have hPn : NFL (zn8 (za9 m)) := fun z hz => hpn z ((s2 z).1 hz)
 have hPk : ∀ z ∈ zn8 (za9 m), z.k ≠ 4 ∧ z.k ≠ 1 := fun z hz => hpk z ((s2 z).1 hz)
 have hPs : (zam (zn8 (za9 m))).length ≤ 998 := by
  have a1 := zji (zpw (zgd (za9 m))); have a2 := zpo (zdd (za9 m)); unfold zn8; omega
 have hu : zn8 (za9 m) ≠ [] → NF (orT (zn8 (za9 m))) ∧ (pre (orT (zn8 (za9 m)))).length ≤ 999 := fun hP => by
  have hsz := (zxi (hPn.cln hPs) hP (by omega)).2
  refine ⟨?_, by omega⟩
  rcases hq : zn8 (za9 m) with _ | ⟨a, _ | ⟨b, l⟩⟩
  ·exact absurd hq hP
  ·rw [hq] at hPn hPk hPs
   have hps : (pre a).length ≤ 998 := by simpa [zam] using hPs
   rw [z8f (hPn a (by simp)).cr (hPk a (by simp)).1 (by omega)]
   exact hPn a (by simp)
  ·have hcan := hq
   rw [hq] at hPn hPk hPs s1
   have e := or_many hPn.crl (fun x hx => (hPk x hx).1) (by omega)
   rw [e]
   refine (zrc _).2 ⟨⟨by simp [Tr.k], zts (by simp) fun x hx => (hPk x hx).1, ⟨fun c => by simp [Tr.k] at c, fun c => by simp [Tr.k] at c, fun _ => ?_⟩⟩, hPn⟩
   show zy4 (a :: b :: l) = _
   have he : zbg (a :: b :: l) = false := by
    rw [← Bool.not_eq_true]
    intro c
    obtain ⟨x, x1, x2⟩ := List.any_eq_true.1 c
    exact (hPk x x1).2 (by simpa using x2)
   have hgP : GdL (a :: b :: l) := gd_of (hPn.cln hPs) (by omega)
   have hm2 : ∀ z, z ∈ a :: b :: l ↔ (z ∈ m ∧ z.k ≠ 2 ∧ z.k ≠ 1) ∨ (zdx m ≠ 0#256 ∧ z = .mk 2 (zdx m) 0 0 []) := fun z => by rw [← hq, s2, zlo]
   have hb : zdx (a :: b :: l) = zdx m := by
    apply BitVec.eq_of_getLsbD_eq
    intro i _
    rw [zdx, zuo, BitVec.getLsbD_zero, Bool.false_or, Bool.eq_iff_iff, List.any_eq_true]
    constructor
    ·rintro ⟨x, x1, x2⟩
     simp only [Bool.and_eq_true, decide_eq_true_eq] at x2
     rcases (hm2 x).1 x1 with q | ⟨q1, q2⟩
     ·exact absurd x2.1 q.2.1
     ·rw [q2] at x2; exact x2.2
    ·intro hbit
     have hb0 : zdx m ≠ 0#256 := fun e => by rw [e] at hbit; simp at hbit
     exact ⟨_, (hm2 _).2 (.inr ⟨hb0, rfl⟩), by simp [Tr.k, Tr.s, hbit]⟩
   have hpc : zn8 (za9 (a :: b :: l)) = a :: b :: l := by
    rw [← zzn hgP s1]
    rw [show zn8 (za9 (zn8 (a :: b :: l))) = zn8 (za9 (a :: b :: l)) by rw [zzn hgP s1]]
    refine z2b (zx1 hgP) fun z => ?_
    rw [zlo, hb, hm2]
    constructor
    ·rintro (⟨q, q1, q2⟩ | q)
     ·refine .inl ⟨?_, q1, q2⟩
      rcases q with q | q
      ·exact q.1
      ·exact absurd (by rw [q.2]; rfl) q1
     ·exact .inr q
    ·rintro (q | q)
     ·exact .inl ⟨.inl q, q.2⟩
     ·exact .inr q
   unfold zy4
   rw [he, if_neg (by decide), show zfr (zgd (za9 (a :: b :: l))) = a :: b :: l from hpc, e]
 unfold zy4
 show NF (if zbg m = true then (if (orT (zn8 (za9 m))).k = 0 then emptyT else z8 (orT (zn8 (za9 m))) optB) else orT (zn8 (za9 m)))
 by_cases hP : zn8 (za9 m) = []
 ·have hp : za9 m = [] := by
   rcases hq : za9 m with _ | ⟨a, l⟩
   ·rfl
   ·have := (s2 a).2 (by rw [hq]; simp)
    rw [hP] at this; cases this
  have he : zbg m = true := by
   cases he : zbg m with
   | true => rfl
   | false => exact absurd hp (zyq hcl.1 hne he)
  rw [if_pos he, hP, zyo, if_pos (show noneT.k = 0 from rfl)]; exact znq
 ·obtain ⟨u1, u2⟩ := hu hP
  split
  ·have hk0 : (orT (zn8 (za9 m))).k ≠ 0 := u1.cr.k0
   rw [if_neg hk0]
   exact zij u1 (by omega) zc2
  ·exact u1
theorem zqb (l : List Tr) {n : Nat} (h : (zam l).length ≤ n) : (zam (zbz 4 l)).length ≤ n := by have := ze0 4 l; omega
theorem z4h {l : List Tr} (h : NFL l) (hne : l ≠ []) (hs : (zam l).length ≤ 998) : z0o l = zy4 (zbz 4 l) := by
 have hf := zrx 4 h
 have g4 := zgn h.crl
 have hsz := zqb l hs
 have eo : orT l = zqd 4 (zbz 4 l) := z2x h.crl hne (by omega)
 have hfne := zr4 h.crl hne
 unfold z0o
 rw [eo]
 rcases hfl : zbz 4 l with _ | ⟨a, _ | ⟨b, m⟩⟩
 ·exact absurd hfl hfne
 ·rw [hfl] at hf g4 hsz
  have ha := hf a (by simp)
  rw [zfw, if_pos (g4.2 a (by simp))]
  exact (z6n ha.cr (g4.2 a (by simp)) (by have := hsz; simp [zam] at this; omega)).symm
 ·rw [hfl] at hf g4 hsz
  rw [zdn]
  have hp : plainT (Tr.mk 4 0#256 0 0 (a :: b :: m)) = true := by
   rw [ze4]
   simp only [Tr.k, Tr.l, Bool.and_eq_true, Bool.not_eq_true', decide_eq_false_iff_not, List.any_eq_false, Bool.not_eq_true]
   exact ⟨by simp, fun z hz => by simp [(hf z hz).plain]⟩
  rw [if_neg (by simp [Tr.k]), hp, if_neg (by decide)]; rfl
theorem nf_alt {l : List Tr} (h : NFL l) (hne : l ≠ []) (hs : (zam l).length ≤ 998) : NF (z0o l) := by
 rw [z4h h hne hs]
 exact nf_altP (zrx 4 h) (zgn h.crl).2 (zr4 h.crl hne) (zqb l hs)
theorem z40 {t y : Tr} (h : plainT t = true) (hy : y ∈ t.l) : plainT y = true := by
 rw [ze4] at h
 simp only [Bool.and_eq_true, Bool.not_eq_true', List.any_eq_false, Bool.not_eq_true, Bool.not_eq_false'] at h
 simpa using h.2 y hy
theorem z3k : ∀ (n : Nat) (t : Tr), (pre t).length ≤ n → CS 998 t → plainT t = true → NF (normT t)
 | 0, t, hn, _, _ => by have := zfl t; omega
 | n + 1, t, hn, h, hpl => by
  have hp : (pre t).length = 1 + (zam t.l).length := by rw [zcw, List.length_cons]; omega
  have hh := h.2
  have hcl := (zcu t.l).1 ((zbc t).1 h.1).2
  have hr := ((zbc t).1 h.1).1
  have hsz := (zwd h).2
  have hnl : NFL (t.l.map normT) := fun z hz => by
   obtain ⟨y, hy, rfl⟩ := List.mem_map.1 hz
   have := zbt hy
   exact z3k n y (by omega) ⟨hcl y hy, by omega⟩ (z40 hpl hy)
  rw [zia, zsj]
  have h6 : t.k ≠ 6 := by
   rw [ze4] at hpl
   simp only [Bool.and_eq_true, Bool.not_eq_true', decide_eq_false_iff_not] at hpl
   exact hpl.1
  rw [if_neg h6]
  by_cases h5 : t.k = 5
  ·rw [if_pos h5]
   obtain ⟨y, e1, e2, e3, e4, e5, e6⟩ := zg5 h.1 h5
   have hl : t.l = [y] := by rw [e1]; rfl
   rw [hl, List.map_cons, List.map_nil] at hnl hsz ⊢
   exact zij (x := normT y) (b := ofB t) (hnl _ (by simp)) (by simp [zam] at hsz; omega) e2
  rw [if_neg h5]
  by_cases h3 : t.k = 3
  ·rw [if_pos h3]; exact nf_cat hnl (by omega)
  rw [if_neg h3]
  by_cases h4 : t.k = 4
  ·rw [if_pos h4]
   have hl := (zb9 hr h4).1
   exact nf_alt hnl (fun e => by rw [List.map_eq_nil_iff.1 e] at hl; cases hl) (by omega)
  ·rw [if_neg h4]
   have hk : t.k = 1 ∨ t.k = 2 := by have := zpx hr; omega
   refine zwy hk hr ?_
   obtain ⟨k, s, mn, mx, l⟩ := t
   rw [zcj, zg8] at hr
   simp only [Tr.k] at hk
   have h3k : decide ((k : Int) < 3) = true := by rw [decide_eq_true_eq]; omega
   rw [h3k, Bool.true_and] at hr
   simp only [Bool.and_eq_true, Bool.not_eq_true', Bool.or_eq_false_iff, decide_eq_false_iff_not] at hr
   have := hr.1.2
   show l = []
   exact List.length_eq_zero_iff.1 (by omega)
theorem znt : ∀ (n : Nat) (t : Tr), (pre t).length ≤ n → CS 998 t → NF t → normT t = t
 | 0, t, hn, _, _ => by have := zfl t; omega
 | n + 1, t, hn, h, hnf => by
  have hp : (pre t).length = 1 + (zam t.l).length := by rw [zcw, List.length_cons]; omega
  have hh := h.2
  have hcl := (zcu t.l).1 ((zbc t).1 h.1).2
  have hr := ((zbc t).1 h.1).1
  have hm : t.l.map normT = t.l := by
   have : ∀ y ∈ t.l, normT y = y := fun y hy => by
    have := zbt hy
    exact znt n y (by omega) ⟨hcl y hy, by omega⟩ (hnf.sub hy)
   rw [List.map_congr_left this, List.map_id']
  rw [zia, zsj, hm, if_neg hnf.ok.1]
  by_cases h5 : t.k = 5
  ·rw [if_pos h5]; exact hnf.ok.2.2.1 h5
  rw [if_neg h5]
  by_cases h3 : t.k = 3
  ·rw [if_pos h3]
   obtain ⟨c1, c2⟩ := zig hr h3
   have hnl : NFL t.l := fun z hz => hnf.sub hz
   have hs : zhi t.l = t := by
    rw [zpe hnl.crl (by omega)]
    have hf : ∀ {l : List Tr}, (∀ x ∈ l, x.k ≠ 1 ∧ x.k ≠ 3) → zbz 3 l = l := by
     intro l
     induction l with
     | nil => intro _; rfl
     | cons x l ih =>
      intro hx
      obtain ⟨q1, q2⟩ := hx x (by simp)
      have e : ((x.k : Int) == ((3 : Nat) : Int)) = false := by simp; omega
      have e1 : ((((3 : Nat) : Int) == 3) && ((x.k : Int) == 1)) = false := by simp; omega
      rw [zdt, e, cond_false, e1, cond_false, ih fun y hy => hx y (by simp [hy])]; rfl
    rw [hf c2]
    obtain ⟨k, s, mn, mx, l⟩ := t
    simp only [Tr.k, Tr.l] at h3 c1 ⊢
    subst h3
    rcases l with _ | ⟨a, _ | ⟨b, l⟩⟩
    ·cases c1
    ·simp at c1
    ·rw [zdn]
     rw [zcj, zg8] at hr
     simp at hr
     obtain ⟨⟨q1, q2, q3⟩, _⟩ := hr
     subst q1 q2 q3; rfl
   rw [zyd, hs, zf0 ⟨h.1, by omega⟩, if_pos h3, hnf.ok.2.2.2.1 h3]
  rw [if_neg h3]
  by_cases h4 : t.k = 4
  ·rw [if_pos h4]
   obtain ⟨c1, c2⟩ := zb9 hr h4
   have hnl : NFL t.l := fun z hz => hnf.sub hz
   rw [z4h hnl (fun e => by rw [e] at c1; cases c1) (by omega), zjj c2]
   exact hnf.ok.2.2.2.2 h4
  ·rw [if_neg h4]
end Go.Ab
set_option linter.unusedSimpArgs false
set_option linter.unusedVariables false
namespace Go.Ab
open Go Go.RowKit Go.Fwd Go.Proofs
theorem zn1 (k : Nat) (s : BS) (mn mx : Int) (l : List Tr) (h : k ≠ 6) : plainT (.mk k s mn mx l) = l.all plainT := by
 rw [ze4]
 simp only [Tr.k, Tr.l, h, decide_false, Bool.not_false, Bool.true_and]
 induction l with
 | nil => rfl
 | cons x l ih => rw [List.any_cons, List.all_cons, Bool.not_or, ih, Bool.not_not]
theorem zov {t : Tr} (h : t.k ≠ 6) : plainT t = t.l.all plainT := by obtain ⟨k, s, mn, mx, l⟩ := t; exact zn1 k s mn mx l h
theorem zj3 : plainT emptyT = true := by rw [emptyT, zn1 _ _ _ _ _ (by decide)]; rfl
theorem zl8 (kind : Nat) (h6 : kind ≠ 6) : ∀ {l : List Tr}, CRL l → (zbz kind l).all plainT = l.all plainT
 | [], _ => rfl
 | x :: l, h => by
  rw [zao] at h
  rw [zdt, List.all_append, List.all_cons, zl8 kind h6 h.2]
  congr 1
  cases hk : ((x.k : Int) == kind) with
  | true =>
   have e : x.k = kind := by have := eq_of_beq hk; omega
   rw [cond_true, zov (by omega)]
  | false =>
   rw [cond_false]
   cases hq : ((kind : Int) == 3 && (x.k : Int) == 1) with
   | true =>
    rw [Bool.and_eq_true] at hq
    have e : x.k = 1 := by have := eq_of_beq hq.2; omega
    rw [z3m h.1 e, zj3]; rfl
   | false => simp
theorem ztj (kind : Nat) (h6 : kind ≠ 6) : ∀ m : List Tr, plainT (zqd kind m) = m.all plainT
 | [] => zj3
 | [x] => by simp [zfw]
 | x :: y :: m => by rw [zdn, zn1 _ _ _ _ _ h6]
theorem zvg {l : List Tr} (h : CLn 1000 l) : plainT (zhi l) = l.all plainT := by rw [zpe h.1 h.2, ztj _ (by decide), zl8 3 (by decide) h.1]
theorem zy7 {l : List Tr} (h : CLn 1000 l) (hne : l ≠ []) : plainT (orT l) = l.all plainT := by rw [z2x h.1 hne h.2, ztj _ (by decide), zl8 4 (by decide) h.1]
theorem zvr {x : Tr} {b : Bd} (h : CS 9999 x) (hb : zbl b.lo b.mo = true) (hp : plainT (z8 x b) = true) : plainT x = true := by
 cases hx : plainT x with
 | true => rfl
 | false =>
  unfold z8 at hp
  rw [if_pos (.inr hx), zgg h hb] at hp
  by_cases h1 : x.k = 1
  ·rw [z3m h.1 h1, zj3] at hx; cases hx
  ·rw [if_neg h1, zn1 _ _ _ _ _ (by decide), List.all_cons, hx] at hp; cases hp
theorem zrg : ∀ {l l' : List Tr}, zcb l = some l' → l'.all plainT = true → l.all plainT = true
 | [], _, h, _ => by simp [zcb] at h
 | [_], _, h, _ => by simp [zcb] at h
 | x :: y :: l, l', h, hp => by
  rw [zh3] at h
  cases hm : zde x y with
  | some o =>
   rw [hm] at h; cases h
   unfold zde at hm
   split at hm
   ·cases hm
   ·rename_i hxy
    have hx : plainT x = true := by cases q : plainT x with | true => rfl | false => exact absurd (.inl q) hxy
    have hy : plainT y = true := by cases q : plainT y with | true => rfl | false => exact absurd (.inr q) hxy
    rw [List.all_cons, Bool.and_eq_true] at hp
    rw [List.all_cons, List.all_cons, hx, hy, hp.2]; rfl
  | none =>
   rw [hm] at h
   simp only [Option.map_eq_some_iff] at h
   obtain ⟨m, h1, h2⟩ := h
   subst h2
   rw [List.all_cons, Bool.and_eq_true] at hp
   rw [List.all_cons, hp.1, zrg h1 hp.2]; rfl
theorem zm7 : ∀ (n : Nat) (t : Tr), (pre t).length ≤ n → CS 1000 t → plainT (ziv t) = true → plainT t = true
 | 0, t, hn, _, _ => by have := zfl t; omega
 | n + 1, t, hn, hc, hp => by
  rw [zf0 hc] at hp
  by_cases hk : t.k = 3
  ·rw [if_pos hk] at hp
   cases hs : zcb t.l with
   | none => rw [hs] at hp; exact hp
   | some l' =>
    rw [hs] at hp
    obtain ⟨q1, q2, q3, q4⟩ := zgl hc hs
    have hc2 := hc.2
    have := zm7 n (zhi l') (by omega) ⟨q1, by omega⟩ hp
    rw [zvg q3] at this
    rw [zov (by omega)]
    exact zrg hs this
  ·rw [if_neg hk] at hp; exact hp
theorem z4v {l : List Tr} (h : CLn 999 l) (hp : plainT (zyd l) = true) : l.all plainT = true := by
 obtain ⟨c1, c2⟩ := zuh h (by omega)
 have := h.2
 rw [← zvg (h.mono (by omega))]
 exact zm7 _ _ (Nat.le_refl _) ⟨c1, by omega⟩ hp
theorem zwm (l : List Tr) (h : (zek l).all plainT = true) : l.all plainT = true := by
 have key : ∀ (l out : List Tr), (l.foldl zsq out).all plainT = true → out.all plainT = true ∧ l.all plainT = true := by
  intro l
  induction l with
  | nil => intro out h; exact ⟨h, rfl⟩
  | cons x l ih =>
   intro out h
   rw [List.foldl_cons] at h
   obtain ⟨h1, h2⟩ := ih _ h
   unfold zsq at h1
   split at h1
   ·rw [List.all_append, Bool.and_eq_true] at h1
    refine ⟨h1.1, ?_⟩
    rw [List.all_cons, h2, Bool.and_true]
    simpa using h1.2
   ·rename_i hq
    refine ⟨h1, ?_⟩
    have hx : plainT x = true := by cases q : plainT x with | true => rfl | false => exact absurd (.inl q) hq
    rw [List.all_cons, hx, h2]; rfl
 exact (key l [] h).2
theorem z1q {l : List Tr} (h : CLn 998 l) (hne : l ≠ []) (hp : plainT (z0o l) = true) : l.all plainT = true := by
 have hc := h.mono (m := 1000) (by omega)
 obtain ⟨r1, r2⟩ := zxi h hne (by omega)
 have hh := h.2
 rw [← zy7 hc hne]
 unfold z0o at hp
 split at hp
 ·exact hp
 ·rename_i hk
  have hk : (orT l).k = 4 := Decidable.byContradiction hk
  split at hp
  ·have hp4 : (pre (orT l)).length = 1 + (zam (orT l).l).length := by rw [zcw, List.length_cons]; omega
   have hc2 : CLn 999 (orT l).l := ⟨((zbc _).1 r1).2, by omega⟩
   have hl := (zb9 ((zbc _).1 r1).1 hk).1
   have hn : (orT l).l ≠ [] := fun e => by rw [e] at hl; cases hl
   rw [zy7 ((hc2.sub (zi4 _)).mono (by omega)) (zy2 hn)] at hp
   rw [zov (by omega)]
   exact zwm _ hp
  ·rename_i q; simpa using q
theorem zq5 : ∀ (n : Nat) (t : Tr), (pre t).length ≤ n → CS 998 t → plainT (normT t) = true → plainT t = true
 | 0, t, hn, _, _ => by have := zfl t; omega
 | n + 1, t, hn, h, hpl => by
  have hp : (pre t).length = 1 + (zam t.l).length := by rw [zcw, List.length_cons]; omega
  have hh := h.2
  have hcl := (zcu t.l).1 ((zbc t).1 h.1).2
  have hr := ((zbc t).1 h.1).1
  have hmc := zwd h
  have key : (t.l.map normT).all plainT = true → t.l.all plainT = true := fun hq => by
   rw [List.all_eq_true] at hq ⊢
   intro y hy
   have := zbt hy
   exact zq5 n y (by omega) ⟨hcl y hy, by omega⟩ (hq _ (List.mem_map.2 ⟨y, hy, rfl⟩))
  rw [zia, zsj] at hpl
  by_cases h6 : t.k = 6
  ·rw [if_pos h6] at hpl
   have h1 := zws h.1 h6
   obtain ⟨y, hy⟩ : ∃ y, t.l = [y] := by
    match hl : t.l, h1 with
    | [y], _ => exact ⟨y, rfl⟩
   rw [hy, List.map_cons, List.map_nil] at hmc hpl
   have hcy := hmc.mem (x := normT y) (by simp)
   rw [show zfu (hdT [normT y]) = _ from (cap_cs (x := normT y) (hcy.mono (by omega))).1, ze4] at hpl
   simp [Tr.k] at hpl
  rw [if_neg h6] at hpl
  rw [zov h6]
  by_cases h5 : t.k = 5
  ·rw [if_pos h5] at hpl
   obtain ⟨y, e1, e2, e3, e4, e5, e6⟩ := zg5 h.1 h5
   have hl : t.l = [y] := by rw [e1]; rfl
   rw [hl, List.map_cons, List.map_nil] at hpl hmc
   rw [hl, List.map_cons, List.map_nil] at key
   rw [hl]
   refine key ?_
   have hcy := hmc.mem (x := normT y) (by simp)
   have := zvr (x := normT y) (b := ofB t) (hcy.mono (by omega)) e2 hpl
   simpa using this
  rw [if_neg h5] at hpl
  by_cases h3 : t.k = 3
  ·rw [if_pos h3] at hpl; exact key (z4v (hmc.mono (by omega)) hpl)
  rw [if_neg h3] at hpl
  by_cases h4 : t.k = 4
  ·rw [if_pos h4] at hpl
   have hl := (zb9 hr h4).1
   exact key (z1q (hmc.mono (by omega)) (fun e => by rw [List.map_eq_nil_iff.1 e] at hl; cases hl) hpl)
  ·rw [if_neg h4, zov h6] at hpl; exact hpl
end Go.Ab
set_option linter.unusedSimpArgs false
set_option linter.unusedVariables false
set_option maxRecDepth 100000
set_option maxHeartbeats 4000000
namespace Go.Ab
open Go Go.RowKit Go.Fwd Go.Proofs
end Go.Ab
set_option linter.unusedSimpArgs false
set_option linter.unusedVariables false
namespace Go.Ab
open Go Go.RowKit Go.Fwd Go.Proofs
theorem zyk {t : Tr} (h : CS 998 t) : ztf t = (normT t, 0) := by rw [ztf, if_pos (h.clean (by omega))]
theorem cs_ct {l : List Tr} {n : Nat} (h : CLn n l) (h1 : 1 < l.length) (h2 : ∀ t ∈ l, t.k ≠ 1 ∧ t.k ≠ 3) : CS (n + 1) (ct l) := ⟨(zbc _).2 ⟨zu5 h1 h2, h.1⟩, by have := h.2; rw [ct, pre, List.length_cons]; omega⟩
end Go.Ab
set_option linter.unusedSimpArgs false
set_option linter.unusedVariables false
namespace Go.Ab
open Go Go.RowKit Go.Fwd Go.Proofs
theorem rp_k {z : Tr} {lo hi : Int} : (rp z lo hi).k = 5 := rfl
theorem rp_of {z : Tr} {lo hi : Int} : ofB (rp z lo hi) = Bd.mk lo hi := rfl
theorem rp_hd {z : Tr} {lo hi : Int} : hdT (rp z lo hi).l = z := rfl
theorem zzm (z : Tr) (lo hi : Int) : (pre (rp z lo hi)).length = 1 + (pre z).length := zgq _ _ _ _ _
theorem rr {z : Tr} {c b : Bd} (h : NF (rp z c.lo c.mo)) (hs : (pre z).length ≤ 9000) (hc : zbk c = true) (hb : zbk b = true) (hbb : zbl b.lo b.mo = true) :
 z8 (rp z c.lo c.mo) b = if b = optB ∧ zaz (rp z c.lo c.mo) = true then rp z c.lo c.mo else if b ≠ c ∨ b = starB then rp z 0 (-1) else rp z b.lo b.mo := by
 rw [ze5 (h.cs (by rw [zzm]; omega)) h.plain hbb (by rw [rp_k]; decide), if_pos (show (rp z c.lo c.mo).k = 5 ∧ zbk b = true ∧ zbk (ofB (rp z c.lo c.mo)) = true from ⟨rfl, hb, hc⟩)]
 rfl
structure Cts (a O S P : Tr) : Prop where
 nO : NF O
 nS : NF S
 nP : NF P
 k1 : O.k ≠ 1 ∧ S.k = 5 ∧ P.k = 5
 s : (pre O).length ≤ 60 ∧ (pre S).length ≤ 60 ∧ (pre P).length ≤ 60
 f1 : zaz a = true → O = a ∧ P = S
 f2 : zaz O = true ∧ zaz S = true ∧ zaz P = zaz a
 f3 : z8 O starB = S ∧ z8 S starB = S ∧ z8 P starB = S
 f4 : z8 S plusB = S ∧ z8 P plusB = P ∧ z8 S optB = S ∧ z8 O optB = O ∧ z8 P optB = S
 f5 : a.k ≠ 5 → S = rp a 0 (-1)
theorem zuw {a : Tr} (h : NF a) (hs : (pre a).length ≤ 50) (h1 : a.k ≠ 1) : Cts a (z8 a optB) (z8 a starB) (z8 a plusB) := by
  have hcs : CS 9999 a := h.cs (by omega)
  have nO := zij (b := optB) h (by omega) zc2
  have nS := zij (b := starB) h (by omega) za6
  have nP := zij (b := plusB) h (by omega) zb8
  have cO := (zg2 (b := optB) (h.cs hs) (by omega) zc2).2
  have cS := (zg2 (b := starB) (h.cs hs) (by omega) za6).2
  have cP := (zg2 (b := plusB) (h.cs hs) (by omega) zb8).2
  have zO : zaz (z8 a optB) = true := by rw [zj2 hcs zc2]; rfl
  have zS : zaz (z8 a starB) = true := by rw [zj2 hcs za6]; rfl
  have zP : zaz (z8 a plusB) = zaz a := by rw [zj2 hcs zb8]; rfl
  have eO := ze5 (b := optB) hcs h.plain zc2 h1
  have eS := ze5 (b := starB) hcs h.plain za6 h1
  have eP := ze5 (b := plusB) hcs h.plain zb8 h1
  rw [if_neg (by simp [starB, optB])] at eS
  rw [if_neg (by simp [plusB, optB])] at eP
  obtain ⟨z, hz, hzs, S1, P1, O1, q1, q5⟩ : ∃ z, NF z ∧ (pre z).length ≤ 50 ∧ z8 a starB = rp z 0 (-1) ∧ (z8 a plusB = rp z 0 (-1) ∨ z8 a plusB = rp z 1 (-1)) ∧ ((zaz a = true ∧ z8 a optB = a) ∨ z8 a optB = rp z 0 (-1) ∨ z8 a optB = rp z 0 1) ∧
      (zaz a = true → z8 a optB = a ∧ z8 a plusB = rp z 0 (-1)) ∧ (a.k ≠ 5 → z = a) := by
    by_cases hA : a.k = 5 ∧ zbk (ofB a) = true
    · obtain ⟨y, y1, y2, y3, y4, y5, y6, y7, y8⟩ := zlz h (by omega) hA.1 hA.2
      rw [if_pos ⟨hA.1, by decide, hA.2⟩, if_pos (.inr rfl), y5] at eS
      rw [if_pos ⟨hA.1, by decide, hA.2⟩, y5] at eP
      refine ⟨y, y2, by omega, eS, ?_, ?_, ?_, fun c => absurd hA.1 c⟩
      · rw [eP]; split
        · exact .inl rfl
        · exact .inr rfl
      · by_cases hn : zaz a = true
        · rw [if_pos ⟨rfl, hn⟩] at eO; exact .inl ⟨hn, eO⟩
        · rw [if_neg (fun c => hn c.2), if_pos ⟨hA.1, by decide, hA.2⟩, y5] at eO
          rw [eO]; split
          · exact .inr (.inl rfl)
          · exact .inr (.inr rfl)
      · intro hn
        rw [if_pos ⟨rfl, hn⟩] at eO
        refine ⟨eO, ?_⟩
        rw [eP]
        have : plusB ≠ ofB a := fun e => by
          have hy : zaz a = zaz y := by
            rw [y1, zn0]
            have : a.mn = 1 := by have := congrArg Bd.lo e; exact this.symm
            rw [this]; rfl
          exact y8 ⟨e.symm, by rw [← hy]; exact hn⟩
        rw [if_pos (.inl this)]; rfl
    · have hA' : ∀ b, ¬ (a.k = 5 ∧ zbk b = true ∧ zbk (ofB a) = true) := fun b c => hA ⟨c.1, c.2.2⟩
      rw [if_neg (hA' _), if_neg (by simp [starB, plusB])] at eS
      rw [if_neg (hA' _)] at eP
      rw [if_neg (hA' _), if_neg (show ¬ (optB = plusB ∧ zaz a = true) by simp [optB, plusB])] at eO
      refine ⟨a, h, hs, eS, ?_, ?_, ?_, fun _ => rfl⟩
      · rw [eP]; split
        · exact .inl rfl
        · exact .inr rfl
      · rw [eO]; split
        · rename_i c; exact .inl ⟨c.2, rfl⟩
        · exact .inr (.inr rfl)
      · intro hn
        rw [if_pos ⟨rfl, hn⟩] at eO eP
        exact ⟨eO, eP⟩
  have nS' := nS
  rw [S1] at nS'
  have rS := fun (b : Bd) (hb : zbk b = true) (hbb : zbl b.lo b.mo = true) => rr (c := starB) (b := b) nS' (by omega) (by decide) hb hbb
  have S3 : z8 (rp z 0 (-1)) starB = rp z 0 (-1) := by
    have := rS starB (by decide) za6
    rw [show rp z starB.lo starB.mo = rp z 0 (-1) from rfl] at this
    rw [this, if_neg (by simp [starB, optB]), if_pos (.inr rfl)]
  have S4 : z8 (rp z 0 (-1)) plusB = rp z 0 (-1) := by
    have := rS plusB (by decide) zb8
    rw [show rp z starB.lo starB.mo = rp z 0 (-1) from rfl] at this
    rw [this, if_neg (by simp [plusB, optB]), if_pos (.inl (by decide))]
  have opt_null : ∀ {x : Tr}, NF x → (pre x).length ≤ 9999 → x.k ≠ 1 → zaz x = true → z8 x optB = x := fun hx hl hk hn => by
    rw [ze5 (hx.cs hl) hx.plain zc2 hk, if_pos ⟨rfl, hn⟩]
  have kO : (z8 a optB).k ≠ 1 := by
    rcases O1 with ⟨_, e⟩ | e | e
    · rw [e]; exact h1
    · rw [e]; simp [rp, Tr.k]
    · rw [e]; simp [rp, Tr.k]
  have kP : (z8 a plusB).k = 5 := by rcases P1 with e | e <;> rw [e] <;> rfl
  have O3 : z8 (z8 a optB) starB = rp z 0 (-1) := by
    rcases O1 with ⟨_, e⟩ | e | e
    · rw [e]; exact S1
    · rw [e]; exact S3
    · rw [e] at nO ⊢
      have := rr (c := optB) (b := starB) nO (by omega) (by decide) (by decide) za6
      rw [show rp z optB.lo optB.mo = rp z 0 1 from rfl] at this
      rw [this, if_neg (by simp [starB, optB]), if_pos (.inr rfl)]
  have P34 : z8 (z8 a plusB) starB = rp z 0 (-1) ∧ z8 (z8 a plusB) plusB = z8 a plusB ∧ z8 (z8 a plusB) optB = rp z 0 (-1) := by
    rcases P1 with e | e
    · rw [e]
      rw [S1] at zS
      exact ⟨S3, S4, opt_null nS' (by rw [zzm]; omega) (by rw [rp_k]; decide) zS⟩
    · rw [e] at nP ⊢
      have hinv := zlz nP (by rw [zzm]; omega) rfl (by rw [rp_of]; decide)
      obtain ⟨y, y1, y2, y3, y4, y5, y6, y7, y8⟩ := hinv
      have hy : y = z := y5.symm
      subst hy
      have hn : zaz (rp y 1 (-1)) = false := by
        cases q : zaz (rp y 1 (-1)) with
        | false => rfl
        | true =>
          have : zaz y = true := by rw [rp, zn0] at q; simpa using q
          exact absurd ⟨rfl, this⟩ y8
      have rP := fun (b : Bd) (hb : zbk b = true) (hbb : zbl b.lo b.mo = true) => rr (c := plusB) (b := b) nP (by omega) (by decide) hb hbb
      refine ⟨?_, ?_, ?_⟩
      · have := rP starB (by decide) za6
        rw [show rp y plusB.lo plusB.mo = rp y 1 (-1) from rfl] at this
        rw [this, if_neg (by simp [starB, optB]), if_pos (.inr rfl)]
      · have := rP plusB (by decide) zb8
        rw [show rp y plusB.lo plusB.mo = rp y 1 (-1) from rfl] at this
        rw [this, if_neg (by simp [plusB, optB]), if_neg (by decide)]
      · have := rP optB (by decide) zc2
        rw [show rp y plusB.lo plusB.mo = rp y 1 (-1) from rfl] at this
        rw [this, if_neg (fun c => by rw [hn] at c; cases c.2), if_pos (.inl (by decide))]
  rw [S1] at zS cS nS ⊢
  exact { nO := nO, nS := nS, nP := nP, k1 := ⟨kO, rfl, kP⟩, s := ⟨by omega, by omega, by omega⟩, f1 := q1, f2 := ⟨zO, zS, zP⟩, f3 := ⟨O3, S3, P34.1⟩
          f4 := ⟨S4, P34.2.1, opt_null nS (by omega) (by rw [rp_k]; decide) zS, opt_null nO (by omega) kO zO, P34.2.2⟩
          f5 := fun hk => by rw [q5 hk] }
end Go.Ab
