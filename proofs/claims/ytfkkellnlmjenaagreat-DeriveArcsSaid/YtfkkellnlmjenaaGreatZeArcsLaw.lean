/-
  The law DeriveArcs of the given program returns true, whatever the input, and what came in reads as it did. No condition.
-/
import Derived.Test.YtfkkellnlmjenaaGreatZeLa
import Derived.ProofKit
import Derived.Laws.IdiomArrays
import Derived.Deep.Slices
import Derived.Deep.Fields
import Derived.ChangeSame
import Derived.HandedShaped
import Derived.Shelf.Vars
set_option linter.unusedSimpArgs false
set_option linter.unusedVariables false
namespace Go.Ab
open Go Go.RowKit Go.Fwd Go.Proofs
def Gd (t : Tr) : Prop := CR t ∧ (pre t).length ≤ 60 ∧ zkg t ≤ 400
theorem Gd.light {t : Tr} (h : Gd t) : zbq t = true := zic (by have := h.2.1; omega)
theorem Gd.cs {t : Tr} (h : Gd t) : CS 998 t := ⟨h.1, by have := h.2.1; omega⟩
theorem qjb {t : Tr} (h : CR t) (hs : (pre t).length ≤ 10000) : zcj t = true := by
 rw [zcj, zic hs, Bool.true_and]; exact h
theorem Gd.notNone {t : Tr} (h : CR t) : isNone t = false := by
 rw [← Bool.not_eq_true, zpw]
 intro e; subst e
 have := CR.k0 h
 exact this rfl
theorem z2c {t : Tr} (hl : (pre t).length ≤ 10000) : zif t = some (zkg t) := by
 unfold zif
 refine zm (by omega) (zad fun x e => ?_)
 rw [zic hl] at e; subst e
 exact zas rfl (zm hl (zad fun x e => by subst e; rfl))
theorem z7s {t : Tr} (h : Gd t) : z0p t = some true := by
 obtain ⟨h1, h2, h3⟩ := h
 unfold z0p
 refine zm (by omega) (zad fun x e => ?_)
 rw [Gd.notNone h1] at e; subst e
 refine zas rfl (zm (by omega) (zad fun x e => ?_))
 rw [qjb h1 (by omega)] at e; subst e
 refine zbk rfl (zm (by omega) (zad fun x e => ?_))
 rw [z7y, if_pos (zic (by omega))] at e; subst e
 refine zbk (by simp; omega) (zbt _ (z2c (by omega)) ?_)
 simp [h3]
theorem z6i {t : Tr} (h : Gd t) : CR (plT t) ∧ (pre (plT t)).length ≤ 60 ∧ BO (plT t) := by
 obtain ⟨h1, h2⟩ := qeq _ t (Nat.le_refl _) h.cs
 have := h.2.1
 exact ⟨h1, by omega, bo_of h1 (by omega)⟩
mutual
theorem zrq (c : Nat) : ∀ t : Tr, (byT c t).length ≤ (pre t).length
 | .mk k s mn mx l => by
  rw [byT]
  have h1 := z0j c l
  have h2 := z0y c l
  have h3 := qcw c l
  have hp : (pre (Tr.mk k s mn mx l)).length = 1 + (zan l).length := zxc ..
  cases (k : Int) == 2 with
  | true =>
   show (bif s.getLsbD c then [emptyT] else []).length ≤ _
   cases s.getLsbD c <;> simp; omega
  | false =>
   cases (k : Int) == 3 with
   | true => show (zhx c l).length ≤ _; omega
   | false =>
    cases (k : Int) == 4 with
    | true => show (znt c l).length ≤ _; omega
    | false =>
     cases (k : Int) == 5 with
     | true => show ((z4h c l).map _).length ≤ _; rw [List.length_map]; omega
     | false => show ([] : List Tr).length ≤ _; simp
theorem z0j (c : Nat) : ∀ l : List Tr, (znt c l).length ≤ (zan l).length
 | [] => by rw [znt]; simp
 | x :: l => by
  have := zrq c x; have := z0j c l
  rw [znt, zan, List.length_append, List.length_append]; omega
theorem qcw (c : Nat) : ∀ l : List Tr, (z4h c l).length ≤ (zan l).length
 | [] => by rw [z4h]; simp
 | x :: l => by
  have := zrq c x
  rw [z4h, zan, List.length_append]; omega
theorem z0y (c : Nat) : ∀ l : List Tr, (zhx c l).length ≤ (zan l).length
 | [] => by rw [zhx]; simp
 | x :: l => by
  have := zrq c x; have := z0y c l
  rw [zhx, zan, List.length_append, List.length_append, List.length_map]
  cases zes x with
  | true => show _ + (zhx c l).length ≤ _; omega
  | false => show _ + ([] : List Tr).length ≤ _; simp; omega
end
theorem zyn {t : Tr} (h : BO t) (c : Nat) : (byT c t).length ≤ 4000 := Nat.le_trans (zrq c t) (zfb h)
theorem by_good {t : Tr} (h : Gd t) (c : Nat) (hc : c < 256) : zra t (c : Int) = some (zmw [plT t] c, 0) := by
 obtain ⟨h1, h2, h3⟩ := z6i h
 unfold zra
 refine zbt _ (z7s h) (zas rfl (zm h.cs (zad fun x e => ?_)))
 subst e
 refine zm ⟨by omega, ⟨by rw [Int.toNat_natCast]; exact hc, fun x hx => by rw [List.mem_singleton] at hx; subst hx; exact h3⟩, ?_, by simp⟩ (zad fun x e => by subst e; rw [Int.toNat_natCast])
 have := zyn h3 (Int.toNat (c : Int))
 simp only [List.flatMap_cons, List.flatMap_nil, List.append_nil]; omega
theorem zpi : ∀ (l : List Tr) (p : Tr), ∀ y ∈ zgi p l, y ∈ l
 | [], p, y, hy => by rw [zgi] at hy; cases hy
 | x :: l, p, y, hy => by
  rw [zgi] at hy
  split at hy
  ·exact List.mem_cons_of_mem _ (zpi l x y hy)
  ·rcases List.mem_cons.1 hy with rfl | hy
   ·exact List.mem_cons_self ..
   ·exact List.mem_cons_of_mem _ (zpi l x y hy)
theorem qlk {l : List Tr} {y : Tr} (h : y ∈ qdy l) : y ∈ l := by
 refine (zgu l).mem_iff.1 ?_
 unfold qdy at h
 cases hs : zsh l with
 | nil => rw [hs] at h; cases h
 | cons x m =>
  rw [hs, zot] at h
  rcases List.mem_cons.1 h with rfl | h
  ·exact List.mem_cons_self ..
  ·exact List.mem_cons_of_mem _ (zpi m x y h)
theorem qky (l : List Tr) : (qdy l).length ≤ l.length := by
 rw [← z3o l]
 unfold qdy
 cases zsh l with
 | nil => simp [zot]
 | cons x m =>
  rw [zot]
  have : ∀ (l : List Tr) (p : Tr), (zgi p l).length ≤ l.length := by
   intro l
   induction l with
   | nil => intro p; simp [zgi]
   | cons a l ih => intro p; rw [zgi]; split <;> simp <;> have := ih a <;> omega
  simpa using this m x
theorem beh_bo {l : List Tr} {c : Nat} (h : ∀ x ∈ l, BO x) {y : Tr} (hy : y ∈ zmw l c) : BO y := by
 obtain ⟨x, hx, hy⟩ := List.mem_flatMap.1 (qlk hy)
 exact (qfi (h x hx) hy).1
theorem BO.light {t : Tr} (h : BO t) : zbq t = true := zic (by have := zfb h; omega)
theorem qbz (t : Tr) : zfa t t = true := (zte t t).2 rfl
theorem qkp {fuel : Nat} {l : List Tr} (h : ∀ x ∈ l, BO x) (hl : l.length < 2 ^ 40) (hf : l.length < fuel) : z3b fuel l l = some true := by
 unfold z3b
 refine zbt true ?_ rfl
 unfold zxv
 refine zas (by simp) (zbn () ?_ rfl)
 refine zdm l.length (fun i => (i : Int)) rfl (fun i hi => ?_) ?_ (by omega)
 ·refine zbk (by simpa using hi) (zm (by omega) (zad fun x1 e1 => zm (by omega) (zad fun x2 e2 => ?_)))
  rw [zdh hi] at e1 e2
  subst e1 e2
  have hb := h _ (List.getElem_mem hi)
  have := zfb hb
  refine zbt true (by rw [samQ, if_pos ⟨by omega, by omega⟩, zrb, hb.light, qbz]; rfl) (zas rfl (zm (by omega) (by simp)))
 ·exact zas (by simp) rfl
mutual
theorem z9j (c d : Nat) : ∀ t : Tr, (∀ x ∈ pre t, x.k = 2 → x.s.getLsbD c = x.s.getLsbD d) → byT c t = byT d t
 | .mk k s mn mx l, h => by
  have hl : ∀ x ∈ zan l, x.k = 2 → x.s.getLsbD c = x.s.getLsbD d := fun x hx => h x (by rw [pre]; exact List.mem_cons_of_mem _ hx)
  rw [byT, byT, qfb c d l hl, qfj c d l hl, by_clsH c d l hl]
  cases hk : (k : Int) == 2 with
  | true =>
   have := h (.mk k s mn mx l) (by rw [pre]; exact List.mem_cons_self ..) (by show k = 2; simp at hk; omega)
   simp only [Tr.s] at this
   rw [this]
  | false => rfl
theorem qfb (c d : Nat) : ∀ l : List Tr, (∀ x ∈ zan l, x.k = 2 → x.s.getLsbD c = x.s.getLsbD d) → znt c l = znt d l
 | [], _ => by rw [znt, znt]
 | x :: l, h => by
  rw [zan] at h
  rw [znt, znt, z9j c d x (fun y hy => h y (List.mem_append_left _ hy)), qfb c d l (fun y hy => h y (List.mem_append_right _ hy))]
theorem by_clsH (c d : Nat) : ∀ l : List Tr, (∀ x ∈ zan l, x.k = 2 → x.s.getLsbD c = x.s.getLsbD d) → z4h c l = z4h d l
 | [], _ => by rw [z4h, z4h]
 | x :: l, h => by
  rw [zan] at h
  rw [z4h, z4h, z9j c d x (fun y hy => h y (List.mem_append_left _ hy))]
theorem qfj (c d : Nat) : ∀ l : List Tr, (∀ x ∈ zan l, x.k = 2 → x.s.getLsbD c = x.s.getLsbD d) → zhx c l = zhx d l
 | [], _ => by rw [zhx, zhx]
 | x :: l, h => by
  rw [zan] at h
  rw [zhx, zhx, z9j c d x (fun y hy => h y (List.mem_append_left _ hy)), qfj c d l (fun y hy => h y (List.mem_append_right _ hy))]
end
theorem qho {p : Tr} {c d : Nat} {S : BS} (hl : zbq p = true) (hS : S ∈ zcg [p]) (hc : c < 256) (hd : d < 256) (h1 : S.getLsbD c = true) (h2 : S.getLsbD d = true) : zmw [p] c = zmw [p] d := by
 have hm : (List.flatMap zhe [p]) = zjg [] (pre p) := by simp [zhe, hl]
 have hcl := (ziv ([p].flatMap zhe)).cls S hS c d hc hd h1
 have := hcl.1 h2
 rw [hm] at this
 unfold zmw
 simp only [List.flatMap_cons, List.flatMap_nil, List.append_nil]
 rw [z9j c d p fun x hx hk => this x.s ((zwe _ _ _).2 (.inr ⟨x, hx, hk, rfl⟩))]
def fsS (s : BS) : Nat := (elN s 256).headD 0
theorem fsS_of {s : BS} {c : Nat} (h : lst s c) : fsS s = c := by
 obtain ⟨h1, h2, h3⟩ := h
 have := z4o s h2 256 h1
 rw [qfu.2 h3] at this
 unfold fsS
 cases he : elN s 256 with
 | nil => rw [he] at this; cases this
 | cons a l => rw [he] at this; simpa using this
theorem zml {s : BS} (h : s ≠ 0#256) : lst s (fsS s) := by
 obtain ⟨c, hc⟩ := qmy h
 rw [fsS_of hc]; exact hc
theorem zwp {s : BS} (h : s ≠ 0#256) : zkk s = some ((fsS s : Int), true) := by
 obtain ⟨h1, h2, h3⟩ := zml h
 rw [z8m]
 unfold els
 unfold fsS
 cases he : elN s 256 with
 | nil => have := qfu.1 he _ h1; rw [this] at h2; cases h2
 | cons a l => rfl
theorem made_gd (l : List Sm) : Gd (zsl l) := by obtain ⟨h1, h2, _, h4⟩ := made_ok l; exact ⟨h1, by omega, h2⟩
def qbn (p : Tr) (s : BS) : Option Arc := if (zmw [p] (fsS s)).isEmpty = true then none else some ⟨s, zmw [p] (fsS s)⟩
def z5w (p : Tr) : List Arc := (zcg [p]).filterMap (qbn p)
theorem beh_len {p : Tr} (h : BO p) (c : Nat) : (zmw [p] c).length ≤ 4000 := by
 have h1 := qky ([p].flatMap (byT c))
 have h2 := zyn h c
 simp only [List.flatMap_cons, List.flatMap_nil, List.append_nil] at h1
 unfold zmw
 simp only [List.flatMap_cons, List.flatMap_nil, List.append_nil]
 omega
theorem qhf {fuel : Nat} {t : Tr} (h : Gd t) (hf : 256 < fuel) : zmq fuel t = some (z5w (plT t), 0) := by
 obtain ⟨h1, h2, h3⟩ := z6i h
 have hcl : (zcg [plT t]).length ≤ 256 := zox _
 have hne := (ziv ([plT t].flatMap zhe)).ne
 unfold zmq
 refine zbt _ (z7s h) (zas rfl (zm h.cs (zad fun x e => ?_)))
 subst e
 refine zbn (z5w (plT t)) (zm ⟨by simp, fun x hx => by rw [List.mem_singleton] at hx; subst hx; omega⟩ (zad fun x3 e3 => ?_)) rfl
 refine zdm x3.length (fun i => ((x3.take i).filterMap (qbn (plT t)), (i : Int))) (by simp) (fun i hi => ?_) ?_ (by rw [← e3]; omega)
 ·subst e3
  have hm : (zcg [plT t])[i] ∈ zcg [plT t] := List.getElem_mem hi
  have h0 : (zcg [plT t])[i] ≠ 0#256 := hne _ hm
  obtain ⟨l1, l2, l3⟩ := zml h0
  have hlf : (((zcg [plT t]).take i).filterMap (qbn (plT t))).length ≤ 256 := Nat.le_trans (List.length_filterMap_le _ _) (by rw [List.length_take]; omega)
  have hby := zyn h3 (fsS (zcg [plT t])[i])
  refine zbk (by simpa using hi) (zbn (((zcg [plT t]).take (i + 1)).filterMap (qbn (plT t))) (zm (by omega) (zad fun x4 e4 => ?_)) (zm (by omega) (by simp)))
  rw [zdh hi] at e4
  subst e4
  refine zbt _ (zwp h0) (zm ⟨by omega, ⟨by rw [Int.toNat_natCast]; exact l1, fun x hx => by rw [List.mem_singleton] at hx; subst hx; exact h3⟩, ?_, by simp⟩ (zad fun x6 e6 => ?_))
  ·simp only [Int.toNat_natCast, List.flatMap_cons, List.flatMap_nil, List.append_nil]; omega
  rw [Int.toNat_natCast] at e6
  rw [List.take_add_one, List.getElem?_eq_getElem hi, Option.toList, List.filterMap_append]
  cases he : x6.isEmpty with
  | true =>
   refine zas (by simp; simpa using he) ?_
   have : qbn (plT t) (zcg [plT t])[i] = none := by rw [qbn, e6, if_pos he]
   simp [this]
  | false =>
   have hpos : 0 < x6.length := by cases x6 with | nil => cases he | cons a l => simp
   refine zbk (by simp; omega) (zm (by simp only [List.length_cons, List.length_nil]; omega) ?_)
   have : qbn (plT t) (zcg [plT t])[i] = some ⟨(zcg [plT t])[i], x6⟩ := by rw [qbn, e6, if_neg (by rw [he]; exact Bool.false_ne_true)]
   simp [this]
 ·refine zas (by simp) ?_
  rw [List.take_length, ← e3]; rfl
theorem arc_mem {p : Tr} {a : Arc} (h : a ∈ z5w p) : a.s ∈ zcg [p] ∧ a.s ≠ 0#256 ∧ a.l = zmw [p] (fsS a.s) ∧ a.l ≠ [] := by
 obtain ⟨s, hs, ha⟩ := List.mem_filterMap.1 h
 have h0 := (ziv ([p].flatMap zhe)).ne s hs
 unfold qbn at ha
 split at ha
 ·cases ha
 ·rename_i he
  cases ha
  exact ⟨hs, h0, rfl, fun e => he (by show (zmw [p] (fsS s)).isEmpty = true; rw [show zmw [p] (fsS s) = [] from e]; rfl)⟩
theorem arc_of {p : Tr} {s : BS} (hs : s ∈ zcg [p]) (h : zmw [p] (fsS s) ≠ []) : ⟨s, zmw [p] (fsS s)⟩ ∈ z5w p :=
 List.mem_filterMap.2 ⟨s, hs, by rw [qbn, if_neg]; cases hb : zmw [p] (fsS s) with | nil => exact absurd hb h | cons a l => simp⟩
theorem arcs_pw (p : Tr) : (z5w p).Pairwise fun a b => a.s &&& b.s = 0#256 ∧ fsS a.s < fsS b.s := by
 have hne := (ziv ([p].flatMap zhe)).ne
 have h1 : (zcg [p]).Pairwise fun a b => (a ∈ zcg [p] ∧ b ∈ zcg [p]) ∧ (a &&& b = 0#256 ∧ ∀ c d, lst a c → lst b d → c < d) :=
  List.pairwise_iff_forall_sublist.2 fun {a b} hab => ⟨⟨hab.subset (by simp), hab.subset (by simp)⟩, List.pairwise_iff_forall_sublist.1 (z8g ([p].flatMap zhe)) hab⟩
 refine List.Pairwise.filterMap (qbn p) (fun a b hab x hx y hy => ?_) h1
 have e1 : x.s = a := by
  unfold qbn at hx; split at hx <;> cases hx; rfl
 have e2 : y.s = b := by
  unfold qbn at hy; split at hy <;> cases hy; rfl
 rw [e1, e2]
 exact ⟨hab.2.1, hab.2.2 _ _ (zml (hne _ hab.1.1)) (zml (hne _ hab.1.2))⟩
def z1x (l : List Arc) : BS := l.foldl (fun b a => b ||| a.s) 0#256
theorem qdx (l : List Arc) (a : Arc) : z1x (l ++ [a]) = z1x l ||| a.s := by simp [z1x]
theorem z8v (c : Nat) (l : List Arc) : (z1x l).getLsbD c = l.any fun a => a.s.getLsbD c := by
 suffices ∀ (l : List Arc) (b : BS), (l.foldl (fun b a => b ||| a.s) b).getLsbD c = (b.getLsbD c || l.any fun a => a.s.getLsbD c) by
  have := this l 0#256
  simpa [z1x] using this
 intro l
 induction l with
 | nil => intro b; simp
 | cons a l ih => intro b; rw [List.foldl_cons, ih, BitVec.getLsbD_or, List.any_cons, Bool.or_assoc]
def qdm (A : List Arc) (i : Nat) : Int := if i = 0 then -1 else fsS ((A[i - 1]?.map Arc.s).getD 0#256)
theorem and_bit {a b : BS} (h : a &&& b = 0#256) (c : Nat) (h1 : a.getLsbD c = true) : b.getLsbD c = false := by
 have := congrArg (fun x => BitVec.getLsbD x c) h
 simp only [BitVec.getLsbD_and, h1, Bool.true_and] at this
 simpa using this
theorem qjh {a b : BS} (h : a &&& b = 0#256) : zsq a b = some false := by
 unfold zsq; rw [h]; rfl
theorem qlu {fuel : Nat} (x : List Sm) (c : Nat) (hc : c < 256) (hl : x.length < 2 ^ 63) (hu : ∀ y ∈ x, y.2.1 < 256) (hf : 5000 < fuel) : zwx fuel x (c : Int) = some true := by
 obtain ⟨t, ht⟩ : ∃ t, zsl x = t := ⟨_, rfl⟩
 have hg : Gd t := ht ▸ made_gd x
 obtain ⟨hp1, hp2, hp3⟩ := z6i hg
 obtain ⟨p, hp⟩ : ∃ p, plT t = p := ⟨_, rfl⟩
 rw [hp] at hp1 hp2 hp3
 have hA : zmq fuel t = some (z5w p, 0) := hp ▸ qhf hg (by omega)
 obtain ⟨A, eA⟩ : ∃ A, z5w p = A := ⟨_, rfl⟩
 have hAl : A.length ≤ 256 := by rw [← eA]; exact Nat.le_trans (List.length_filterMap_le _ _) (zox _)
 have hAm : ∀ a ∈ A, a.s ∈ zcg [p] ∧ a.s ≠ 0#256 ∧ a.l = zmw [p] (fsS a.s) ∧ a.l ≠ [] := fun a ha => arc_mem (eA ▸ ha)
 have hApw := arcs_pw p
 rw [eA] at hA hApw
 have hbl : ∀ d, ∀ y ∈ zmw [p] d, BO y := fun d y hy => beh_bo (fun x hx => by rw [List.mem_singleton] at hx; subst hx; exact hp3) hy
 have hcls : ∀ a ∈ A, ∀ d, d < 256 → a.s.getLsbD d = true → zmw [p] d = a.l := fun a ha d hd h => by
  obtain ⟨m1, m2, m3, m4⟩ := hAm a ha
  obtain ⟨l1, l2, l3⟩ := zml m2
  rw [m3]
  exact qho (zic (by omega)) m1 hd l1 h l2
 have hby : ∀ d : Nat, d < 256 → zra t (d : Int) = some (zmw [p] d, 0) := fun d hd => hp ▸ by_good hg d hd
 have heq : ∀ d, z3b fuel (zmw [p] d) (zmw [p] d) = some true := fun d => by
  have := beh_len hp3 d
  exact qkp (hbl d) (by omega) (by omega)
 unfold zwx
 refine zm ⟨hl, hu⟩ (zad fun x1 e1 => ?_)
 rw [ht] at e1; subst e1
 refine zbt _ hA (zas rfl (zbn (z1x A) ?_ ?_))
 ·refine zdm A.length (fun i => (qdm A i, (i : Int), z1x (A.take i))) (by simp [qdm, z1x]) (fun i hi => ?_) ?_ (by omega)
  ·obtain ⟨m1, m2, m3, m4⟩ := hAm _ (List.getElem_mem hi)
   obtain ⟨l1, l2, l3⟩ := zml m2
   refine zbk (by simpa using hi) (zm (by simp only; omega) (zad fun x3 e3 => ?_))
   simp only at e3
   rw [zdh hi] at e3
   subst e3
   refine zbt _ (zwp m2) (zas rfl (zbt false (qjh ?_) (zas rfl (zm (by simp only; omega) (zas ?_ (zas ?_ (zad fun x6 e6 => zm (by simp only; omega) (zbt _ (hby _ l1) (zas rfl (zbt true ?_ (zas rfl (zm (by simp only; omega) ?_))))))))))))
   ·refine zmo.2 fun d hd => ?_
    rw [BitVec.getLsbD_and, z8v, ← Bool.not_eq_true, Bool.and_eq_true, List.any_eq_true]
    rintro ⟨⟨a, ha, hb⟩, hb2⟩
    obtain ⟨j, hj, rfl⟩ := List.mem_iff_getElem.1 ha
    rw [List.getElem_take] at hb
    have hj' : j < i := by rw [List.length_take] at hj; omega
    have := (List.pairwise_iff_getElem.1 hApw j i (by omega) hi hj').1
    rw [and_bit this d hb] at hb2; cases hb2
   ·refine decide_eq_false ?_
    show ¬((fsS A[i].s : Int) ≤ qdm A i)
    unfold qdm
    split
    ·omega
    ·have := (List.pairwise_iff_getElem.1 hApw (i - 1) i (by omega) hi (by omega)).2
     rw [List.getElem?_eq_getElem (show i - 1 < A.length by omega)]
     show ¬((fsS A[i].s : Int) ≤ (fsS A[i - 1].s : Int))
     omega
   ·simp only [beq_eq_false_iff_ne]
    intro e; exact m4 (List.length_eq_zero_iff.1 (by omega))
   ·simp only; rw [m3]; exact heq _
   ·rw [← e6, List.take_add_one, List.getElem?_eq_getElem hi, Option.toList, qdx]
    simp [qdm, List.getElem?_eq_getElem hi]
  ·refine zas (by simp) ?_
   simp
 ·refine zbt _ (hby c hc) (zas rfl (zbt _ (zsx _ c hc) (zas ?_ (zbn () ?_ rfl))))
  ·rw [z8v]
   have : (A.any fun a => a.s.getLsbD c) = decide (((zmw [p] c).length : Int) > 0) := by
    rw [Bool.eq_iff_iff, List.any_eq_true, decide_eq_true_eq]
    constructor
    ·rintro ⟨a, ha, hb⟩
     rw [hcls a ha c hc hb]
     have := (hAm a ha).2.2.2
     cases hq : a.l with
     | nil => exact absurd hq this
     | cons y l => simp
    ·intro hpos
     obtain ⟨S, hS, hb⟩ := (ziv ([p].flatMap zhe)).all c hc
     have h0 := (ziv ([p].flatMap zhe)).ne S hS
     obtain ⟨l1, l2, l3⟩ := zml h0
     have e := qho (zic (show (pre p).length ≤ 10000 by omega)) hS hc l1 hb l2
     refine ⟨⟨S, zmw [p] (fsS S)⟩, eA ▸ arc_of hS (fun e0 => ?_), hb⟩
     rw [e, e0] at hpos
     simp at hpos
   rw [this]
   simp
  ·refine zdm A.length (fun i => (i : Int)) rfl (fun i hi => ?_) ?_ (by omega)
   ·obtain ⟨m1, m2, m3, m4⟩ := hAm _ (List.getElem_mem hi)
    refine zbk (by simpa using hi) (zbn () (zm (by simp only; omega) (zad fun x11 e11 => ?_)) (zm (by omega) (by simp)))
    simp only at e11
    rw [zdh hi] at e11
    subst e11
    refine zbt _ (zsx _ c hc) ?_
    cases hb : A[i].s.getLsbD c with
    | false => exact zas rfl rfl
    | true =>
     refine zbk rfl (zbt true ?_ (zas rfl rfl))
     show z3b fuel (zmw [p] c) A[i].l = some true
     rw [← hcls _ (List.getElem_mem hi) c hc hb]
     exact heq c
   ·exact zas (by simp) rfl
theorem qlt (x : List Sm) (c : Nat) (hc : c < 256) (hl : x.length < 2 ^ 63) (hu : ∀ y ∈ x, y.2.1 < 256) : Pure (ITP Tryz.prog) Tryz.prog 3 [.list x.length (Enc.cellsL x) .none, .raw (.int .u8 (c : Int))] (.raw (.bool true)) := qji 5001 x c true (qlu x c hc hl hu (by omega))
end Go.Ab
namespace Go.Ab
open Go Go.RowKit Go.Fwd Go.Proofs Go.ChangeShapes Go.WideShapes Go.ChangeAt Go.Deep
theorem ownLess : ownKnob Tryz.prog.godebug = none := by kernel_rfl
theorem laidOut : laidOutB Tryz.prog = true := by kernel_rfl
def qao (W : World) : Cx := ⟨fun b o => ∃ v, W.cell? ⟨b, o, none⟩ = some v, [], [], [], W, fun _ => False, fun _ _ => False⟩
theorem gv_base (W : World) (hS : W.ShapedOpen Tryz.prog) : gvBase Tryz.prog W where
 err := fun n g h e => by
  have h1 : Tryz.prog.globalNamed "strconv.ErrSyntax" = none := by kernel_rfl
  have h2 : Tryz.prog.globalNamed "strconv.ErrRange" = none := by kernel_rfl
  rcases h with rfl | rfl
  ·rw [h1] at e; cases e
  ·rw [h2] at e; cases e
 pow := fun g e => by
  have h1 : Tryz.prog.globalNamed "internal/strconv.uint64pow10" = none := by kernel_rfl
  rw [h1] at e; cases e
 max := fun g e => by
  have h1 : Tryz.prog.globalNamed "internal/bytealg.MaxLen" = some 0 := by kernel_rfl
  rw [h1] at e; cases e
  exact Go.Proofs.cell_of_shapedOpen_int (zero := #[.int .i64 0]) (t := 3) hS (of_decide_eq_true (by kernel_rfl)) (by kernel_rfl) rfl (by kernel_rfl) (by kernel_rfl) (by kernel_rfl)
theorem inv_top (W : World) (hS : W.ShapedOpen Tryz.prog) : Inv (ITP Tryz.prog) St.empty (qao W) where
 lens := rfl
 elems := rfl
 κlen := rfl
 κnd := fun s s' b h => by simp [qao] at h
 box := fun s b t cs h => by simp [qao] at h
 κF := fun s b t cs h => by simp [qao] at h
 βlen := rfl
 βnd := by simp [qao]
 βκ := fun r h => by simp [qao] at h
 row := fun s r L h => by simp [qao] at h
 Ok := fun b h => h.elim
 Fcell := fun b o h => h
 gv := ⟨W, gv_base W hS, Szs.refl _, fun b o v _ hv => ⟨⟨v, hv⟩, hv⟩⟩
theorem qjo {f : FuncId} {args : List AV} {u : Value} (h : Pure (ITP Tryz.prog) Tryz.prog f args (.raw u)) (W : World) (hS : W.ShapedOpen Tryz.prog) {vs : List Value} (hr : zbd (ITP Tryz.prog) (qao W) args vs) :
 Calls Tryz.prog f vs.toArray W fun e W' => e = .returned u ∧ Ex W.heap.size W W' := by
 refine (h.2 (qao W) vs (inv_top W hS) hr).mono ?_
 rintro e w' ⟨v, Y, rfl, rfl, hE, hIY, hv⟩
 rw [Rep] at hv; subst hv
 exact ⟨rfl, ⟨⟨hE.os, hE.tape, hE.output, hE.size, fun b hb => hE.frame b hb (by simp [qao]) (by simp [qao])⟩, hE.drawn⟩⟩
theorem z7t {n : Int} (h : (Lit.int .u8 n).wf = true) : 0 ≤ n ∧ n ≤ 255 := by
 have h1 : IntKind.u8.min = 0 := rfl
 have h2 : IntKind.u8.max = 255 := rfl
 simp only [Lit.wf, Bool.and_eq_true, decide_eq_true_eq] at h
 omega
set_option maxRecDepth 100000 in
theorem qnk : Tryz.prog.underlying 22 = some (.slice 81) := rfl
theorem cells49 : Tryz.prog.cellsOf 81 = 3 := by kernel_rfl
set_option maxRecDepth 100000 in
theorem qkc : ∃ f0 f1 f2 : Field, Tryz.prog.underlying 81 = some (.struct #[f0, f1, f2]) ∧ oneCellFields Tryz.prog #[f0, f1, f2] = true ∧ Tryz.prog.underlying f0.type = some (.int .u8) ∧ Tryz.prog.underlying f1.type = some (.int .u8) ∧ Tryz.prog.underlying f2.type = some (.int .u8) := ⟨_, _, _, rfl, by kernel_rfl, rfl, rfl, rfl⟩
section
variable {H : Type} {enc : TypeId × Value → H}
set_option maxRecDepth 100000 in
theorem z5g {W : World} {base : Nat} {spare : Nat → Bool} {held : Bool} {n : Nat} {cs : List Value} {x : DataW H × List MemPlace} (h : DataW.trod enc Tryz.prog W base spare held n 81 cs = some x) (hl : cs.length = 3) :
 ∃ s : Sm, cs = [.int .u8 (s.1 : Int), .int .u8 (s.2.1 : Int), .int .u8 (s.2.2 : Int)] ∧ s.2.1 < 256 := by
 obtain ⟨f0, f1, f2, hu, hone, t0, t1, t2⟩ := qkc
 obtain ⟨ys, m, _, _, _, hyl, hf⟩ := DataW.trod_struct hu h
 obtain ⟨o0, k0⟩ := hone_of hone 0 f0 rfl
 obtain ⟨o1, k1⟩ := hone_of hone 1 f1 rfl
 obtain ⟨o2, k2⟩ := hone_of hone 2 f2 rfl
 match cs, hl with
 | [c0, c1, c2], _ =>
  match ys, hyl with
  | [y0, y1, y2], _ =>
   have g0 : DataW.trod enc Tryz.prog W base spare held m f0.type [c0] = some y0 := by simpa [o0, k0] using hf 0 f0 rfl
   have g1 : DataW.trod enc Tryz.prog W base spare held m f1.type [c1] = some y1 := by simpa [o1, k1] using hf 1 f1 rfl
   have g2 : DataW.trod enc Tryz.prog W base spare held m f2.type [c2] = some y2 := by simpa [o2, k2] using hf 2 f2 rfl
   obtain ⟨n0, e0, _, w0⟩ := DataW.trod_int t0 g0
   obtain ⟨n1, e1, _, w1⟩ := DataW.trod_int t1 g1
   obtain ⟨n2, e2, _, w2⟩ := DataW.trod_int t2 g2
   simp at e0 e1 e2
   subst e0 e1 e2
   have b0 := z7t w0
   have b1 := z7t w1
   have b2 := z7t w2
   exact ⟨(n0.toNat, n1.toNat, n2.toNat), by simp only [Int.toNat_of_nonneg b0.1, Int.toNat_of_nonneg b1.1, Int.toNat_of_nonneg b2.1], by simp only; omega⟩
theorem z2e (W : World) (b : Nat) : ∀ (len o : Nat) (g : Nat → Sm), (∀ i, i < len → W.cell? ⟨b, o + i * 3, none⟩ = some (.int .u8 ((g i).1 : Int)) ∧ W.cell? ⟨b, o + i * 3 + 1, none⟩ = some (.int .u8 ((g i).2.1 : Int)) ∧ W.cell? ⟨b, o + i * 3 + 2, none⟩ = some (.int .u8 ((g i).2.2 : Int))) →
 At (ITP Tryz.prog) (qao W) (qob ((List.range len).map g)) b o
 | 0, o, g, _ => by simp [qob, At]
 | len + 1, o, g, h => by
  rw [List.range_succ_eq_map, List.map_cons, List.map_map, qob, smc]
  have h0 := h 0 (by omega)
  simp only [Nat.zero_mul, Nat.add_zero] at h0
  obtain ⟨a0, a1, a2⟩ := h0
  have ih := z2e W b len (o + 3) (g ∘ Nat.succ) (fun i hi => by
   have := h (i + 1) (by omega)
   rw [show o + (i + 1) * 3 = o + 3 + i * 3 by omega] at this
   exact this)
  simp only [List.cons_append, List.nil_append, At]
  exact ⟨⟨⟨_, a0⟩, _, a0, rfl, by rw [Rep]⟩, ⟨⟨_, a1⟩, _, a1, rfl, by rw [Rep]⟩, ⟨⟨_, a2⟩, _, a2, rfl, by rw [Rep]⟩, ih⟩
set_option maxRecDepth 100000 in
theorem qbq {W : World} {base : Nat} {v : Value} {d : DataW H} {p : List MemPlace} (hv : Value.okWide Tryz.prog W .any base 22 v) (h : DataW.Trod enc Tryz.prog W 0 (fun _ => true) true 22 v d p) :
 ∃ l : List Sm, (l.length < 2 ^ 63 ∧ ∀ x ∈ l, x.2.1 < 256) ∧ Rep (ITP Tryz.prog) (qao W) (.list l.length (qob l) .none) v := by
 obtain ⟨fuel, hf⟩ := h
 obtain ⟨a0, len, cap, rfl⟩ := okWide_slice qnk hv
 rcases open_slice qnk hf with ⟨h0, _⟩ | ⟨a, len', cap', m, n, D, Pl, hcs, hb, hl, hm, hmm, hx, hi⟩
 ·simp [Value.cells] at h0
  obtain ⟨rfl, rfl, rfl⟩ := h0
  refine ⟨[], by simp, ?_⟩
  rw [Rep]
  exact ⟨none, 0, rfl, ⟨Nat.le_refl _, fun _ => rfl⟩, .inl rfl, trivial⟩
 ·simp [Value.cells] at hcs
  obtain ⟨rfl, rfl, rfl⟩ := hcs
  rw [cells49] at hi
  have hm' : m = cap := by simpa using hmm
  have hcell : ∀ i, i < m → ∃ s : Sm, W.cell? (a.add (i * 3)) = some (.int .u8 (s.1 : Int)) ∧ W.cell? (a.add (i * 3 + 1)) = some (.int .u8 (s.2.1 : Int)) ∧ W.cell? (a.add (i * 3 + 2)) = some (.int .u8 (s.2.2 : Int)) ∧ s.2.1 < 256 := fun i him => by
   obtain ⟨cs', hc, ht⟩ := hi i him
   obtain ⟨_, hcl, hat⟩ := World.cells?_some hc
   obtain ⟨s, rfl, hs⟩ := z5g ht hcl
   refine ⟨s, ?_, ?_, ?_, hs⟩
   ·have := hat 0 (by omega); rw [Go.Deep.add_add] at this; simpa using this
   ·have := hat 1 (by omega); rw [Go.Deep.add_add] at this; simpa using this
   ·have := hat 2 (by omega); rw [Go.Deep.add_add] at this; simpa using this
  by_cases hz : len = 0
  ·subst hz
   refine ⟨[], by simp, ?_⟩
   rw [Rep]
   exact ⟨some a, cap, rfl, ⟨hl, fun h => by cases h⟩, .inl rfl, trivial⟩
  ·obtain ⟨s0, c0, _⟩ := hcell 0 (by omega)
   have hspot : a = ⟨a.block, a.off, none⟩ := by
    cases a with
    | mk b o sp =>
     cases sp with
     | none => rfl
     | some k =>
      exfalso
      simp [Addr.add, World.cell?] at c0
      split at c0 <;> simp at c0
   have hadd : ∀ j, a.add j = ⟨a.block, a.off + j, none⟩ := fun j => by
    by_cases hj : j = 0
    ·subst hj; simp [Addr.add]; exact hspot
    ·simp [Addr.add, hj]
   let g : Nat → Sm := fun i => if h : i < m then Classical.choose (hcell i h) else (0, 0, 0)
   have hg : ∀ i (him : i < m), W.cell? (a.add (i * 3)) = some (.int .u8 ((g i).1 : Int)) ∧ W.cell? (a.add (i * 3 + 1)) = some (.int .u8 ((g i).2.1 : Int)) ∧ W.cell? (a.add (i * 3 + 2)) = some (.int .u8 ((g i).2.2 : Int)) ∧ (g i).2.1 < 256 := fun i him => by
    have e : g i = Classical.choose (hcell i him) := dif_pos him
    rw [e]; exact Classical.choose_spec (hcell i him)
   have hml : maxLen < 2 ^ 63 := by decide
   refine ⟨(List.range len).map g, ⟨by simp; omega, fun x hx => ?_⟩, ?_⟩
   ·obtain ⟨i, hi', rfl⟩ := List.mem_map.1 hx
    exact (hg i (by have := List.mem_range.1 hi'; omega)).2.2.2
   rw [Rep]
   refine ⟨some a, cap, by simp, ⟨by simpa using hl, fun h => by cases h⟩, .inr ⟨a.block, a.off, by rw [← hspot], z2e W a.block len a.off g fun i hi => ?_⟩, trivial⟩
   have := hg i (by omega)
   rw [hadd, hadd, hadd] at this
   exact ⟨this.1, this.2.1, this.2.2.1⟩
end
theorem znd {H : Type} {enc : TypeId × Value → H} {P : Program} (hl : laidOutB P = true) {W W' : World} (hb : Below W.heap.size W W') : ∀ {ts : List TypeId} {vs : List Value} {ds : List (DataW H)} {ps : List MemPlace},
 (ts.all fun t => P.readableRec t && decide (t < P.types.size)) = true → DataW.TrodAll enc P W 0 (fun _ => true) true ts vs ds ps → (∀ x ∈ ps, x.block < W.heap.size) → DataW.TrodAll enc P W' 0 (fun b => decide (b < W.heap.size)) true ts vs ds ps
 | [], vs, ds, ps, _, h, _ => by
  cases vs with
  | nil =>
   cases ds with
   | nil => exact h
   | cons => exact h.elim
  | cons => exact h.elim
 | t :: ts, vs, ds, ps, ht, h, hlt => by
  obtain ⟨v, vs', d, ds', p, q, rfl, rfl, rfl, hd, hr⟩ := trodAll_cons h
  simp only [List.all_cons, Bool.and_eq_true, decide_eq_true_eq] at ht
  exact ⟨p, q, Below.trod hl ht.1.1 ht.1.2 hd hb fun x hx => hlt x (by simp [hx]), znd hl hb ht.2 hr fun x hx => hlt x (by simp [hx]), rfl⟩
end Go.Ab
namespace Go.Proofs.YtfkkellnlmjenaaGreat
open Go Go.Ab Go.ChangeShapes Go.WideShapes Go.ChangeAt Go.RowKit Go.Fwd
set_option maxRecDepth 100000 in
theorem deriveArcs_lifted (os : Os) (started : os.Started) (H : Type) (enc : TypeId × Value → H) :
 ReturnsInHanded {} Tryz.checked os 3 .any (Rows.deriveArcsSpec.pre6 enc Tryz.prog Tryz.f3 Rows.deriveArcsRow.domain false) (Rows.deriveArcsSpec.post enc Tryz.prog Tryz.f3 false true false false) := by
 refine returnsInHanded_of_change_shaped (C := Tryz.checked) ownLess started (by kernel_rfl) Tryz.func3
  (ChangeSpec.witness6 (enc := enc) (C := Tryz.checked) false ⟨#[], #[.slice .none 0 0, .int .u8 0], []⟩ 8 (by kernel_rfl) (by kernel_rfl) (by kernel_rfl) (by kernel_rfl)) ?_
 intro W base args ds gs before hval0 hW _ _ hS _
 have hval : ∀ (j : Nat) t v, Tryz.f3.params[j]? = some t → args[j]? = some v → Value.okWide Tryz.prog W .any base t v := hval0
 have hW' := hW
 obtain ⟨p, q, hA0, hV, rfl, _, _⟩ := hW
 have hA : DataW.TrodAll enc Tryz.prog W 0 (fun _ => true) true Tryz.f3.params.toList args.toList ds p := hA0
 rw [show Tryz.f3.params.toList = [22, 5] from by kernel_rfl] at hA
 have hA1 := hA
 obtain ⟨v0, v1, d0, d1, p0, p1, rfl, rfl, rfl, h0, h1⟩ := trodAll_two hA
 obtain ⟨rfl, rfl⟩ := trodVars_none hV
 obtain ⟨l0, hl0, hr0⟩ := qbq (hval 0 22 v0 (by kernel_rfl) rfl) h0
 obtain ⟨m1, rfl, _, _, w1⟩ := open_int (show Tryz.prog.underlying 5 = some (.int .u8) from by kernel_rfl) (hval 1 5 v1 (by kernel_rfl) rfl) h1
 have w1 := z7t w1
 obtain ⟨n1, rfl⟩ : ∃ n : Nat, m1 = (n : Int) := ⟨m1.toNat, by omega⟩
 have hn1 : n1 < 256 := by omega
 clear hA0 hval0
 simp only [List.append_nil] at hW'
 have hlt := hW'.lt
 refine (qjo (qlt l0 n1 hn1 hl0.1 hl0.2) W hS (vs := [v0, .int .u8 n1]) ⟨_, _, rfl, hr0, _, _, rfl, rfl, rfl⟩).mono fun e W' ⟨he, hw⟩ => ?_
 subst he
 refine ⟨_, rfl, ?_⟩
 refine ⟨_, _, _, [] ++ [], p0 ++ p1, [], hW', ?_, ?_, rfl, hw.toBelow.frame _, fun h => by cases h⟩
 ·exact trodAll_mk1 (shut_bool (show Tryz.prog.underlying 4 = some .bool from by kernel_rfl) true)
 ·exact znd laidOut hw.toBelow (by kernel_rfl) hA1 (fun x hx => hlt x (by simpa using hx))
theorem deriveArcs_holds : Rows.DeriveArcsSaid :=
 OpenClaim.holds_of_wide 3 Tryz.f3 rfl rfl rfl rfl rfl rfl rfl ⟨rfl, rfl, rfl, rfl, rfl⟩ rfl rfl rfl rfl rfl (by kernel_rfl) Tryz.func3 (by kernel_rfl)
  (of_decide_eq_true (by kernel_rfl)) (by unfold Func.isWrapper; rw [if_neg (by decide +kernel)]; exact ⟨rfl, rfl⟩)
  (fun os started H enc _ => deriveArcs_lifted os started H enc)
end Go.Proofs.YtfkkellnlmjenaaGreat
