/-
  rxnorm: Alts of normal trees are normal; the normal form of a plain tree is normal; what is normal stays as it is (plain).
-/
import Derived.Test.YtmoncghgagmilaaZnNf
set_option linter.unusedSimpArgs false
set_option linter.unusedVariables false
namespace Go.Ab
open Go Go.RowKit Go.Fwd Go.Proofs
def GdT (t : Tr) : Prop := CR t ∧ (pre t).length ≤ 10000
def GdL (l : List Tr) : Prop := ∀ x ∈ l, GdT x
theorem GdT.eqB {x y : Tr} (hx : GdT x) (hy : GdT y) (h : zf1 x y = 0) : x = y := zv2 x y hx.1 hy.1 h
theorem zzd {x y : Tr} (hx : GdT x) : zfc x y = true ↔ x = y := by
 constructor
 ·intro h
  rw [zfc, Bool.and_eq_true] at h
  exact (zho _ _).1 h.2
 ·rintro rfl
  exact zpc (zpm hx.2)
theorem zv0 {x y z : Tr} (hx : GdT x) (hy : GdT y) (hz : GdT z) (h : zf1 x y < 0) (k : zf1 y z ≤ 0) : zf1 x z < 0 := by
 have h1 := ze4 x y z (by omega) k
 have h2 := zel x y
 rcases Int.lt_or_eq_of_le h1 with h3 | h3
 ·exact h3
 ·have := hx.eqB hz h3
  subst this; omega
theorem zhy : ∀ (l : List Tr) (p : Tr), GdT p → GdL l → (p :: l).Pairwise (fun x y => zf1 x y ≤ 0) → (p :: ze7 p l).Pairwise (fun x y => zf1 x y < 0) ∧ ∀ z, z ∈ p :: ze7 p l ↔ z ∈ p :: l
 | [], p, _, _, _ => by simp [ze7]
 | y :: l, p, hp, hl, hs => by
  obtain ⟨s1, s2⟩ := List.pairwise_cons.1 hs
  have hy := hl y (by simp)
  have hl' : GdL l := fun z hz => hl z (by simp [hz])
  unfold ze7
  by_cases hb : zfc y p = true
  ·rw [if_pos hb]
   have e := (zzd hy).1 hb
   subst e
   obtain ⟨h1, h2⟩ := zhy l y hy hl' s2
   exact ⟨h1, fun z => by rw [h2 z]; simp⟩
  ·rw [if_neg hb]
   obtain ⟨h1, h2⟩ := zhy l y hy hl' s2
   have hpy : zf1 p y < 0 := by
    have := s1 y (by simp)
    rcases Int.lt_or_eq_of_le this with h | h
    ·exact h
    ·exact absurd ((zzd hy).2 (hp.eqB hy h).symm) hb
   refine ⟨List.pairwise_cons.2 ⟨fun z hz => ?_, h1⟩, fun z => by rw [List.mem_cons, h2 z]; simp⟩
   have hzl := (h2 z).1 hz
   rcases List.mem_cons.1 hz with rfl | hz'
   ·exact hpy
   ·have := (List.pairwise_cons.1 h1).1 z hz'
    refine zv0 hp hy ?_ hpy (by omega)
    rcases List.mem_cons.1 hzl with rfl | h
    ·exact hy
    ·exact hl' z h
def znk (l : List Tr) : List Tr := ze0 (zfu l)
theorem zje {l : List Tr} (h : GdL l) : (znk l).Pairwise (fun x y => zf1 x y < 0) ∧ ∀ z, z ∈ znk l ↔ z ∈ l := by
 have hp := zde l
 have hs := zmv l
 unfold znk
 rcases hq : zfu l with _ | ⟨p, m⟩
 ·rw [hq] at hp; have e := hp.nil_eq; subst e; simp [ze0]
 ·rw [hq] at hp hs
  have hg : ∀ z ∈ p :: m, GdT z := fun z hz => h z (hp.subset hz)
  obtain ⟨h1, h2⟩ := zhy m p (hg p (by simp)) (fun z hz => hg z (by simp [hz])) hs
  exact ⟨h1, fun z => (h2 z).trans hp.mem_iff⟩
theorem zh4 : ∀ {l m : List Tr}, l.Pairwise (fun x y => zf1 x y < 0) → m.Pairwise (fun x y => zf1 x y < 0) → (∀ z, z ∈ l ↔ z ∈ m) → l = m
 | [], [], _, _, _ => rfl
 | [], b :: m, _, _, h => absurd ((h b).2 (by simp)) (by simp)
 | a :: l, [], _, _, h => absurd ((h a).1 (by simp)) (by simp)
 | a :: l, b :: m, hl, hm, h => by
  obtain ⟨l1, l2⟩ := List.pairwise_cons.1 hl
  obtain ⟨m1, m2⟩ := List.pairwise_cons.1 hm
  have e : a = b := by
   rcases List.mem_cons.1 ((h a).1 (by simp)) with e | ha
   ·exact e
   ·rcases List.mem_cons.1 ((h b).2 (by simp)) with e | hb
    ·exact e.symm
    ·have := l1 b hb; have := m1 a ha; have := zel a b; omega
  subst e
  have key : ∀ z, z ∈ l ↔ z ∈ m := fun z => by
   constructor
   ·intro hz
    rcases List.mem_cons.1 ((h z).1 (by simp [hz])) with e | hm
    ·have := l1 z hz; rw [e, zsn] at this; omega
    ·exact hm
   ·intro hz
    rcases List.mem_cons.1 ((h z).2 (by simp [hz])) with e | hm
    ·have := m1 z hz; rw [e, zsn] at this; omega
    ·exact hm
  rw [zh4 l2 m2 key]
theorem ztp {l m : List Tr} (hl : GdL l) (h : ∀ z, z ∈ l ↔ z ∈ m) : znk l = znk m := by
 have hm : GdL m := fun z hz => hl z ((h z).2 hz)
 obtain ⟨a1, a2⟩ := zje hl
 obtain ⟨b1, b2⟩ := zje hm
 exact zh4 a1 b1 fun z => by rw [a2, b2, h]
theorem zx4 {l : List Tr} (hl : GdL l) (h : l.Pairwise (fun x y => zf1 x y < 0)) : znk l = l := by
 obtain ⟨a1, a2⟩ := zje hl
 exact zh4 a1 h a2
theorem zjh {l : List Tr} {z : Tr} : z ∈ zbw l ↔ z ∈ l ∧ z.k ≠ 2 ∧ z.k ≠ 1 := by
 unfold zbw; rw [List.mem_filter]; simp
theorem zkz (i : Nat) : ∀ (l : List Tr) (s : BS), (l.foldl (fun s x => if x.k = 2 then s ||| x.s else s) s).getLsbD i = (s.getLsbD i || l.any fun x => decide (x.k = 2) && x.s.getLsbD i)
 | [], s => by simp
 | x :: l, s => by
  rw [List.foldl_cons, zkz i l, List.any_cons]
  by_cases hk : x.k = 2
  ·simp [hk, Bool.or_assoc]
  ·simp [hk]
theorem zua {l m : List Tr} (h : ∀ z, z ∈ l ↔ z ∈ m) (p : Tr → Bool) : l.any p = m.any p := by
 rw [Bool.eq_iff_iff, List.any_eq_true, List.any_eq_true]
 exact ⟨fun ⟨x, h1, h2⟩ => ⟨x, (h x).1 h1, h2⟩, fun ⟨x, h1, h2⟩ => ⟨x, (h x).2 h1, h2⟩⟩
theorem zwm {l m : List Tr} (h : ∀ z, z ∈ l ↔ z ∈ m) : zda l = zda m := by
 apply BitVec.eq_of_getLsbD_eq
 intro i _
 rw [zda, zda, zkz, zkz, zua h]
theorem zsa {l : List Tr} (h : GdL l) : GdL (zax l) := by
 intro z hz
 unfold zax zsp at hz
 rcases List.mem_append.1 hz with hz | hz
 ·exact h z (zjh.1 hz).1
 ·split at hz
  ·cases hz
  ·rename_i hb
   rw [List.mem_singleton.1 hz]
   exact ⟨z38 hb, by simp [pre, zai]⟩
theorem zzv {l m : List Tr} (hl : GdL l) (h : ∀ z, z ∈ l ↔ z ∈ m) : ztj l = ztj m := by
 have e1 : za7 l = za7 m := zua h _
 have e2 : znk (zax l) = znk (zax m) := ztp (zsa hl) fun z => by
  unfold zax
  rw [zwm h, List.mem_append, List.mem_append, zjh, zjh, h]
 unfold ztj
 rw [e1, show ze0 (zfu (zax l)) = ze0 (zfu (zax m)) from e2]
theorem zme : ∀ {l : List Tr}, (∀ x ∈ l, x.k ≠ 4) → zbd 4 l = l
 | [], _ => rfl
 | x :: l, h => by
  have hx := h x (by simp)
  have e : ((x.k : Int) == ((4 : Nat) : Int)) = false := by simp; omega
  have e1 : ((((4 : Nat) : Int) == 3) && ((x.k : Int) == 1)) = false := by simp
  rw [zd6, e, cond_false, e1, cond_false, zme fun y hy => h y (by simp [hy])]; rfl
theorem z79 {x : Tr} (hc : CR x) (hk : x.k ≠ 4) (hs : (pre x).length ≤ 1000) : orT [x] = x := by
 rw [z3k ((zap _ _).2 ⟨hc, zcg⟩) (by simp) (by simpa [zai] using hs), zme (by simpa using hk)]; rfl
theorem or_many {a b : Tr} {l : List Tr} (hc : CRL (a :: b :: l)) (hk : ∀ x ∈ a :: b :: l, x.k ≠ 4) (hs : (zai (a :: b :: l)).length ≤ 1000) : orT (a :: b :: l) = .mk 4 0#256 0 0 (a :: b :: l) := by
 rw [z3k hc (by simp) hs, zme hk, zd5]
theorem zlk {l : List Tr} {z : Tr} : z ∈ zax l ↔ (z ∈ l ∧ z.k ≠ 2 ∧ z.k ≠ 1) ∨ (zda l ≠ 0#256 ∧ z = .mk 2 (zda l) 0 0 []) := by
 unfold zax zsp
 rw [List.mem_append, zjh]
 split
 ·rename_i h; simp [h]
 ·rename_i h; simp [h]
theorem z5o {l : List Tr} {n : Nat} (h : CLn n l) (hn : n ≤ 10000) : GdL l := fun z hz => ⟨(h.mem hz).1, by have := (h.mem hz).2; omega⟩
theorem NFL.cln {l : List Tr} {n : Nat} (h : NFL l) (hs : (zai l).length ≤ n) : CLn n l := ⟨h.crl, hs⟩
theorem zzc {x : Tr} (hc : CR x) (hk : x.k ≠ 4) (hs : (pre x).length ≤ 999) : ztj [x] = x := by
 by_cases h1 : x.k = 1
 ·have e := z72 hc h1
  subst e
  have : zax [emptyT] = [] := by simp [zax, zbw, zda, zsp, emptyT, Tr.k]
  unfold ztj
  rw [this, if_pos (show za7 [emptyT] = true by simp [za7, emptyT, Tr.k]), show ze0 (zfu ([] : List Tr)) = [] from rfl, zvh, if_pos (show noneT.k = 0 from rfl)]
 ·have he : za7 [x] = false := by simp [za7, h1]
  have hp : zax [x] = [x] := by
   by_cases h2 : x.k = 2
   ·have hx : x = .mk 2 x.s 0 0 [] := by
     have hr := ((zbm x).1 hc).1
     obtain ⟨k, s, mn, mx, l⟩ := x
     simp only [Tr.k] at h2; subst h2
     rw [zct, zg7] at hr
     simp at hr
     obtain ⟨⟨⟨q1, q2⟩, q3⟩, _⟩ := hr
     subst q1 q2
     rw [show l = [] by simpa using q3]; rfl
    have hb : zda [x] = x.s := by simp [zda, h2]
    have ho : zbw [x] = [] := by simp [zbw, h2]
    rw [zax, ho, hb, zsp, if_neg (z2q hc h2), List.nil_append, ← hx]
   ·simp [zax, zbw, zda, zsp, h1, h2]
  unfold ztj
  rw [he, if_neg (by decide), hp]
  show orT [x] = x
  exact z79 hc hk (by omega)
theorem nf_altP {m : List Tr} (h : NFL m) (hk : ∀ x ∈ m, x.k ≠ 4) (hne : m ≠ []) (hs : (zai m).length ≤ 998) : NF (ztj m) := by
 have hcl : CLn 998 m := h.cln hs
 have hgd : GdL m := z5o hcl (by omega)
 obtain ⟨p1, p2⟩ := zsw hcl
 have hpn : NFL (zax m) := fun z hz => by
  rcases zlk.1 hz with q | ⟨q1, q2⟩
  ·exact h z q.1
  ·rw [q2]; exact nf_cls q1
 have hpk : ∀ z ∈ zax m, z.k ≠ 4 ∧ z.k ≠ 1 := fun z hz => by
  rcases zlk.1 hz with q | ⟨q1, q2⟩
  ·exact ⟨hk z q.1, q.2.2⟩
  ·rw [q2]; simp [Tr.k]
 have hpg := zsa hgd
 obtain ⟨s1, s2⟩ := zje hpg
 have hPn : NFL (znk (zax m)) := fun z hz => hpn z ((s2 z).1 hz)
 have hPk : ∀ z ∈ znk (zax m), z.k ≠ 4 ∧ z.k ≠ 1 := fun z hz => hpk z ((s2 z).1 hz)
 have hPs : (zai (znk (zax m))).length ≤ 998 := by
  have a1 := zjc (zoc (zfu (zax m))); have a2 := zod (zde (zax m)); unfold znk; omega
 have hu : znk (zax m) ≠ [] → NF (orT (znk (zax m))) ∧ (pre (orT (znk (zax m)))).length ≤ 999 := fun hP => by
  have hsz := (zww (hPn.cln hPs) hP (by omega)).2
  refine ⟨?_, by omega⟩
  rcases hq : znk (zax m) with _ | ⟨a, _ | ⟨b, l⟩⟩
  ·exact absurd hq hP
  ·rw [hq] at hPn hPk hPs
   have hps : (pre a).length ≤ 998 := by simpa [zai] using hPs
   rw [z79 (hPn a (by simp)).cr (hPk a (by simp)).1 (by omega)]
   exact hPn a (by simp)
  ·have hcan := hq
   rw [hq] at hPn hPk hPs s1
   have e := or_many hPn.crl (fun x hx => (hPk x hx).1) (by omega)
   rw [e]
   refine (zp9 _).2 ⟨⟨by simp [Tr.k], zty (by simp) fun x hx => (hPk x hx).1, ⟨fun c => by simp [Tr.k] at c, fun c => by simp [Tr.k] at c, fun _ => ?_⟩⟩, hPn⟩
   show ztj (a :: b :: l) = _
   have he : za7 (a :: b :: l) = false := by
    rw [← Bool.not_eq_true]
    intro c
    obtain ⟨x, x1, x2⟩ := List.any_eq_true.1 c
    exact (hPk x x1).2 (by simpa using x2)
   have hgP : GdL (a :: b :: l) := z5o (hPn.cln hPs) (by omega)
   have hm2 : ∀ z, z ∈ a :: b :: l ↔ (z ∈ m ∧ z.k ≠ 2 ∧ z.k ≠ 1) ∨ (zda m ≠ 0#256 ∧ z = .mk 2 (zda m) 0 0 []) := fun z => by rw [← hq, s2, zlk]
   have hb : zda (a :: b :: l) = zda m := by
    apply BitVec.eq_of_getLsbD_eq
    intro i _
    rw [zda, zkz, BitVec.getLsbD_zero, Bool.false_or, Bool.eq_iff_iff, List.any_eq_true]
    constructor
    ·rintro ⟨x, x1, x2⟩
     simp only [Bool.and_eq_true, decide_eq_true_eq] at x2
     rcases (hm2 x).1 x1 with q | ⟨q1, q2⟩
     ·exact absurd x2.1 q.2.1
     ·rw [q2] at x2; exact x2.2
    ·intro hbit
     have hb0 : zda m ≠ 0#256 := fun e => by rw [e] at hbit; simp at hbit
     exact ⟨_, (hm2 _).2 (.inr ⟨hb0, rfl⟩), by simp [Tr.k, Tr.s, hbit]⟩
   have hpc : znk (zax (a :: b :: l)) = a :: b :: l := by
    rw [← zx4 hgP s1]
    rw [show znk (zax (znk (a :: b :: l))) = znk (zax (a :: b :: l)) by rw [zx4 hgP s1]]
    refine ztp (zsa hgP) fun z => ?_
    rw [zlk, hb, hm2]
    constructor
    ·rintro (⟨q, q1, q2⟩ | q)
     ·refine .inl ⟨?_, q1, q2⟩
      rcases q with q | q
      ·exact q.1
      ·exact absurd (by rw [q.2]; rfl) q1
     ·exact .inr q
    ·rintro (q | q)
     ·exact .inl ⟨.inl q, q.2⟩
     ·exact .inr q
   unfold ztj
   rw [he, if_neg (by decide), show ze0 (zfu (zax (a :: b :: l))) = a :: b :: l from hpc, e]
 unfold ztj
 show NF (if za7 m = true then (if (orT (znk (zax m))).k = 0 then emptyT else zcx (orT (znk (zax m))) zp6) else orT (znk (zax m)))
 by_cases hP : znk (zax m) = []
 ·have hp : zax m = [] := by
   rcases hq : zax m with _ | ⟨a, l⟩
   ·rfl
   ·have := (s2 a).2 (by rw [hq]; simp)
    rw [hP] at this; cases this
  have he : za7 m = true := by
   cases he : za7 m with
   | true => rfl
   | false => exact absurd hp (zzl hcl.1 hne he)
  rw [if_pos he, hP, zvh, if_pos (show noneT.k = 0 from rfl)]; exact znt
 ·obtain ⟨u1, u2⟩ := hu hP
  split
  ·have hk0 : (orT (znk (zax m))).k ≠ 0 := u1.cr.k0
   rw [if_neg hk0]
   exact znv u1 (by omega) zqk
  ·exact u1
theorem zhf (l : List Tr) {n : Nat} (h : (zai l).length ≤ n) : (zai (zbd 4 l)).length ≤ n := by have := zeu 4 l; omega
theorem z32 {l : List Tr} (h : NFL l) (hne : l ≠ []) (hs : (zai l).length ≤ 998) : z13 l = ztj (zbd 4 l) := by
 have hf := zl5 4 h
 have g4 := zfg h.crl
 have hsz := zhf l hs
 have eo : orT l = zqc 4 (zbd 4 l) := z3k h.crl hne (by omega)
 have hfne := znp h.crl hne
 unfold z13
 rw [eo]
 rcases hfl : zbd 4 l with _ | ⟨a, _ | ⟨b, m⟩⟩
 ·exact absurd hfl hfne
 ·rw [hfl] at hf g4 hsz
  have ha := hf a (by simp)
  rw [zfm, if_pos (g4.2 a (by simp))]
  exact (zzc ha.cr (g4.2 a (by simp)) (by have := hsz; simp [zai] at this; omega)).symm
 ·rw [hfl] at hf g4 hsz
  rw [zd5]
  have hp : plainT (Tr.mk 4 0#256 0 0 (a :: b :: m)) = true := by
   rw [zfr]
   simp only [Tr.k, Tr.l, Bool.and_eq_true, Bool.not_eq_true', decide_eq_false_iff_not, List.any_eq_false, Bool.not_eq_true]
   exact ⟨by simp, fun z hz => by simp [(hf z hz).plain]⟩
  rw [if_neg (by simp [Tr.k]), hp, if_neg (by decide)]; rfl
theorem nf_alt {l : List Tr} (h : NFL l) (hne : l ≠ []) (hs : (zai l).length ≤ 998) : NF (z13 l) := by
 rw [z32 h hne hs]
 exact nf_altP (zl5 4 h) (zfg h.crl).2 (znp h.crl hne) (zhf l hs)
theorem z09 {t y : Tr} (h : plainT t = true) (hy : y ∈ t.l) : plainT y = true := by
 rw [zfr] at h
 simp only [Bool.and_eq_true, Bool.not_eq_true', List.any_eq_false, Bool.not_eq_true, Bool.not_eq_false'] at h
 simpa using h.2 y hy
theorem z34 : ∀ (n : Nat) (t : Tr), (pre t).length ≤ n → CS 998 t → plainT t = true → NF (normT t)
 | 0, t, hn, _, _ => by have := zg8 t; omega
 | n + 1, t, hn, h, hpl => by
  have hp : (pre t).length = 1 + (zai t.l).length := by rw [zc8, List.length_cons]; omega
  have hh := h.2
  have hcl := (zcq t.l).1 ((zbm t).1 h.1).2
  have hr := ((zbm t).1 h.1).1
  have hsz := (zxf h).2
  have hnl : NFL (t.l.map normT) := fun z hz => by
   obtain ⟨y, hy, rfl⟩ := List.mem_map.1 hz
   have := zbr hy
   exact z34 n y (by omega) ⟨hcl y hy, by omega⟩ (z09 hpl hy)
  rw [znz, z0j]
  have h6 : t.k ≠ 6 := by
   rw [zfr] at hpl
   simp only [Bool.and_eq_true, Bool.not_eq_true', decide_eq_false_iff_not] at hpl
   exact hpl.1
  rw [if_neg h6]
  by_cases h5 : t.k = 5
  ·rw [if_pos h5]
   obtain ⟨y, e1, e2, e3, e4, e5, e6⟩ := zh9 h.1 h5
   have hl : t.l = [y] := by rw [e1]; rfl
   rw [hl, List.map_cons, List.map_nil] at hnl hsz ⊢
   exact znv (x := normT y) (b := ofB t) (hnl _ (by simp)) (by simp [zai] at hsz; omega) e2
  rw [if_neg h5]
  by_cases h3 : t.k = 3
  ·rw [if_pos h3]; exact nf_cat hnl (by omega)
  rw [if_neg h3]
  by_cases h4 : t.k = 4
  ·rw [if_pos h4]
   have hl := (zdj hr h4).1
   exact nf_alt hnl (fun e => by rw [List.map_eq_nil_iff.1 e] at hl; cases hl) (by omega)
  ·rw [if_neg h4]
   have hk : t.k = 1 ∨ t.k = 2 := by have := zow hr; omega
   refine zw5 hk hr ?_
   obtain ⟨k, s, mn, mx, l⟩ := t
   rw [zct, zg7] at hr
   simp only [Tr.k] at hk
   have h3k : decide ((k : Int) < 3) = true := by rw [decide_eq_true_eq]; omega
   rw [h3k, Bool.true_and] at hr
   simp only [Bool.and_eq_true, Bool.not_eq_true', Bool.or_eq_false_iff, decide_eq_false_iff_not] at hr
   have := hr.1.2
   show l = []
   exact List.length_eq_zero_iff.1 (by omega)
end Go.Ab
