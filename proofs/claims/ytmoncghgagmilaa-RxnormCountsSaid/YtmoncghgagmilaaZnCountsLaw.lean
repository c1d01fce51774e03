/-
  The law RxnormCounts of the given program returns true, whatever the slice is, and what came in reads as it did. No condition.
-/
import Derived.Test.YtmoncghgagmilaaZnNi
import Derived.Test.YtmoncghgagmilaaZnVb
import Derived.ProofKit
import Derived.Laws.IdiomArrays
import Derived.Deep.Slices
import Derived.Deep.Fields
import Derived.ChangeSame
set_option linter.unusedSimpArgs false
set_option linter.unusedVariables false
namespace Go.Ab
open Go Go.RowKit Go.Fwd Go.Proofs
theorem zs9 {t : Tr} (h : CS 998 t) : zf6 t = some (normT t) := by
 unfold zf6
 refine zz ⟨.inl h, by have := h.2; omega⟩ (zan fun x e => ?_)
 rw [← e, zyk h]; rfl
theorem z6o {x : Tr} {b : Bd} (h : NF x) (hs : (pre x).length ≤ 100) (hk : x.k ≠ 1) (hb : zbl b.lo b.mo = true) : CS 998 (zbd x b.lo b.mo) ∧ normT (zbd x b.lo b.mo) = z8 x b := by
 have e : zbd x b.lo b.mo = rp x b.lo b.mo := by rw [zgg (h.cs (by omega)) hb, if_neg hk]; rfl
 have hc : CS 998 (rp x b.lo b.mo) := ⟨(zbc _).2 ⟨zi1 hk hb, by rw [rp, Tr.l, zao]; exact ⟨h.cr, zb0⟩⟩, by rw [zzm]; omega⟩
 rw [e]
 refine ⟨hc, ?_⟩
 rw [zia, zsj, if_neg (by rw [rp_k]; decide), if_pos rp_k]
 show z8 (normT x) b = _
 rw [znt _ x (Nat.le_refl _) (h.cs (by omega)) h]
theorem tn {β : Type} {x : Tr} (b : Bd) (h : NF x) (hs : (pre x).length ≤ 100) (hk : x.k ≠ 1) (hb : zbl b.lo b.mo = true) {k : Tr → Option β} {r : Option β} (K : k (z8 x b) = r) {iq : Decidable ((pre x).length < 2 ^ 40)} :
 chk ((pre x).length < 2 ^ 40) (zal (zbd x b.lo b.mo) fun y => zau (zf6 y) k) = r := by
 obtain ⟨h1, h2⟩ := z6o h hs hk hb
 refine zz (by omega) (zan fun y e => ?_)
 subst e
 exact zdl _ (by rw [zs9 h1, h2]) K
theorem ckT {β : Type} {p : Prop} {iq : Decidable p} {v : Bool} {A B : Option β} {r : Option β} (hp : p) (hv : v = true) (k : B = r) : chk p (zal v fun x => bif !x then A else B) = r := by
 subst hv
 exact zz hp (zan fun x e => by subst e; exact k)
theorem zl4 : ∀ {l : List Tr}, (∀ x ∈ l, x.k ≠ 1 ∧ x.k ≠ 3) → zbz 3 l = l
 | [], _ => rfl
 | x :: l, h => by
  obtain ⟨q1, q2⟩ := h x (by simp)
  have e : ((x.k : Int) == ((3 : Nat) : Int)) = false := by simp; omega
  have e1 : ((((3 : Nat) : Int) == 3) && ((x.k : Int) == 1)) = false := by simp; omega
  rw [zdt, e, cond_false, e1, cond_false, zl4 fun y hy => h y (by simp [hy])]; rfl
theorem seq_two {x y : Tr} (hx : NF x) (hy : NF y) (kx : x.k ≠ 1 ∧ x.k ≠ 3) (ky : y.k ≠ 1 ∧ y.k ≠ 3) (hs : (pre x).length + (pre y).length ≤ 900) : zhi [x, y] = ct [x, y] ∧ CS 998 (ct [x, y]) := by
 have hc : CRL [x, y] := (zao _ _).2 ⟨hx.cr, (zao _ _).2 ⟨hy.cr, zb0⟩⟩
 have hk : ∀ z ∈ [x, y], z.k ≠ 1 ∧ z.k ≠ 3 := fun z hz => by
  simp only [List.mem_cons, List.not_mem_nil, or_false] at hz
  rcases hz with rfl | rfl
  ·exact kx
  ·exact ky
 have hl : (zam [x, y]).length = (pre x).length + (pre y).length := by simp [zam]
 have := cs_ct (n := 900) (l := [x, y]) ⟨hc, by omega⟩ (by simp) hk
 refine ⟨?_, this.mono (by omega)⟩
 rw [zpe hc (by omega), zl4 hk, zdn]; rfl
theorem cat_one {o : Tr} (ho : NF o) (ko : o.k ≠ 1 ∧ o.k ≠ 3) (hs : (pre o).length ≤ 900) : ziv (zhi [o]) = o := by
 have hc : CRL [o] := (zao _ _).2 ⟨ho.cr, zb0⟩
 have e : zhi [o] = o := by
  rw [zpe hc (by simp [zam]; omega), zl4 (fun z hz => by rw [List.mem_singleton.1 hz]; exact ko)]; rfl
 rw [e, zf0 (ho.cs (by omega)), if_neg ko.2]
theorem zrz {x y o : Tr} (hx : NF x) (hy : NF y) (ho : NF o) (kx : x.k ≠ 1 ∧ x.k ≠ 3) (ky : y.k ≠ 1 ∧ y.k ≠ 3) (ko : o.k ≠ 1 ∧ o.k ≠ 3) (sx : (pre x).length ≤ 100) (sy : (pre y).length ≤ 100) (so : (pre o).length ≤ 100) (hm : zde x y = some o) :
 CS 998 (zhi [x, y]) ∧ normT (zhi [x, y]) = o := by
 obtain ⟨e, hc⟩ := seq_two hx hy kx ky (by omega)
 rw [e]
 refine ⟨hc, ?_⟩
 rw [zia, zsj, if_neg (by simp [ct, Tr.k]), if_neg (by simp [ct, Tr.k]), if_pos (show (ct [x, y]).k = 3 from rfl)]
 show zyd [normT x, normT y] = o
 rw [znt _ x (Nat.le_refl _) (hx.cs (by omega)) hx, znt _ y (Nat.le_refl _) (hy.cs (by omega)) hy, zyd, e, zf0 (hc.mono (by omega)), if_pos (show (ct [x, y]).k = 3 from rfl)]
 show (match zcb [x, y] with | some l' => ziv (zhi l') | none => ct [x, y]) = o
 rw [zh3, hm]
 exact cat_one ho ko (by omega)
theorem zlm {x : Tr} {n : Nat} (h : CS n x) (hn : n ≤ 10000) : zh6 x = zaz x := by rw [zh6, h.clean hn]; rfl
theorem star_of {a : Tr} (hs : (pre a).length ≤ 100) : zet (rp a 0 (-1)) a = true := by
 unfold zet
 rw [rp_hd, zoa (zkw (by omega))]
 rfl
theorem z2y (l : List Sm) (hl : l.length < 2 ^ 63 ∧ ∀ y ∈ l, y.2.1 < 256) : znv 5 l = some true := by
 have A : CS 50 (zon l) := (made_mt l).cs
 unfold znv
 refine zz hl (zan fun x1 e1 => ?_)
 rw [e1] at A
 have A8 : CS 998 x1 := A.mono (by omega)
 have a1 := A.2
 refine zz ⟨.inl A8, by omega⟩ (zan fun x2 e2 => ?_)
 rw [zyk A8] at e2
 subst e2
 have hle := z3c A8
 have hcr := norm_cr A8
 obtain ⟨a, ha⟩ : ∃ a, a = normT x1 := ⟨_, rfl⟩
 refine zbw rfl ?_
 simp only [← ha] at hle hcr ⊢
 have hcs : CS 50 a := ⟨hcr, by omega⟩
 have hsz := hcs.2
 refine zz (by omega) (zan fun x3 e3 => ?_)
 cases x3 with
 | false => exact zby rfl rfl
 | true =>
  refine zbw rfl ?_
  have hpl : plainT a = true := by rw [zqq, Bool.and_eq_true] at e3; exact e3.2
  have hnf : NF a := by
   rw [ha] at hpl ⊢
   exact z3k _ x1 (Nat.le_refl _) A8 (zq5 _ x1 (Nat.le_refl _) A8 hpl)
  by_cases h1 : a.k = 1
  ·exact zby (by simp [h1]) rfl
  ·refine zbw (by simp; omega) ?_
   have C := zuw hnf (by omega) h1
   refine tn optB hnf (by omega) h1 zc2 (tn starB hnf (by omega) h1 za6 (tn plusB hnf (by omega) h1 zb8 ?_))
   obtain ⟨O, hO⟩ : ∃ O, O = z8 a optB := ⟨_, rfl⟩
   obtain ⟨S, hS⟩ : ∃ S, S = z8 a starB := ⟨_, rfl⟩
   obtain ⟨P, hP⟩ : ∃ P, P = z8 a plusB := ⟨_, rfl⟩
   rw [← hO, ← hS, ← hP] at C
   simp only [← hO, ← hS, ← hP]
   obtain ⟨s1, s2, s3⟩ := C.s
   have cO : CS 60 O := C.nO.cs s1
   have cS : CS 60 S := C.nS.cs s2
   have cP : CS 60 P := C.nP.cs s3
   have rf : ∀ {x : Tr}, (pre x).length ≤ 60 → zd0 x x = true := fun h => zoa (zkw (by omega))
   have kS1 : S.k ≠ 1 := by rw [C.k1.2.1]; decide
   have kP1 : P.k ≠ 1 := by rw [C.k1.2.2]; decide
   have u1 : zh6 O = true := by rw [zlm cO (by omega)]; exact C.f2.1
   have u2 : zh6 S = true := by rw [zlm cS (by omega)]; exact C.f2.2.1
   have u3 : zh6 P = zh6 a := by rw [zlm cP (by omega), zlm hcs (by omega)]; exact C.f2.2.2
   refine zc8 () ?_ (zc8 () ?_ ?_)
   ·refine zz (by omega) (zan fun x10 e10 => ?_)
    cases x10 with
    | true =>
     rw [zlm hcs (by omega)] at e10
     obtain ⟨f1, f2⟩ := C.f1 e10
     refine zby rfl (ckT ⟨by omega, by omega⟩ (by rw [f1]; exact rf (by omega)) (ckT ⟨by omega, by omega⟩ (by rw [f2]; exact rf s2) (ckT (by omega) u1 (ckT (by omega) u2 (zz (by omega) (zan fun x15 e15 => zz (by omega) (zan fun x16 e16 => ?_)))))))
     rw [← e15, ← e16, u3]
     exact zbw (by simp) rfl
    | false =>
     refine zbw rfl (ckT (by omega) u1 (ckT (by omega) u2 (zz (by omega) (zan fun x15 e15 => zz (by omega) (zan fun x16 e16 => ?_)))))
     rw [← e15, ← e16, u3]
     exact zbw (by simp) rfl
   ·have hall : ∀ x ∈ [O, S, P], NF x ∧ (pre x).length ≤ 60 ∧ x.k ≠ 1 ∧ z8 x starB = S := fun x hx => by
     simp only [List.mem_cons, List.not_mem_nil, or_false] at hx
     rcases hx with rfl | rfl | rfl
     ·exact ⟨C.nO, s1, C.k1.1, C.f3.1⟩
     ·exact ⟨C.nS, s2, kS1, C.f3.2.1⟩
     ·exact ⟨C.nP, s3, kP1, C.f3.2.2⟩
    have hlen : [O, S, P].length = 3 := rfl
    generalize [O, S, P] = D at hall hlen ⊢
    refine zgy 3 (fun i => (i : Int)) rfl (fun i hi => ?_) (zbw (by simp; omega) rfl) (by decide)
    have hi' : i < D.length := by omega
    refine zby (by simp; omega) (zz (by omega) (zan fun x21 e21 => ?_))
    rw [zeg hi'] at e21
    obtain ⟨g1, g2, g3, g4⟩ := hall D[i] (List.getElem_mem hi')
    rw [e21] at g1 g2 g3 g4
    refine zbw (by have := g1.cr.k0; simp; omega) (tn starB g1 (by omega) g3 za6 ?_)
    rw [g4]
    exact ckT ⟨by omega, by omega⟩ (rf s2) (zz (by omega) (by simp))
   ·refine tn plusB C.nS (by omega) kS1 zb8 ?_
    rw [C.f4.1]
    refine ckT ⟨by omega, by omega⟩ (rf s2) (tn plusB C.nP (by omega) kP1 zb8 ?_)
    rw [C.f4.2.1]
    refine ckT ⟨by omega, by omega⟩ (rf s3) (tn optB C.nS (by omega) kS1 zc2 ?_)
    rw [C.f4.2.2.1]
    refine ckT ⟨by omega, by omega⟩ (rf s2) (tn optB C.nO (by omega) C.k1.1 zc2 ?_)
    rw [C.f4.2.2.2.1]
    refine ckT ⟨by omega, by omega⟩ (rf s1) (tn optB C.nP (by omega) kP1 zc2 ?_)
    rw [C.f4.2.2.2.2]
    refine ckT ⟨by omega, by omega⟩ (rf s2) ?_
    by_cases h3 : a.k = 3
    ·exact zby (by simp [h3]) rfl
    refine zbw (by simp; omega) ?_
    by_cases h5 : a.k = 5
    ·exact zby (by simp [h5]) rfl
    refine zbw (by simp; omega) ?_
    have eS := C.f5 h5
    have ka : a.k ≠ 1 ∧ a.k ≠ 3 := ⟨h1, h3⟩
    have kS : S.k ≠ 1 ∧ S.k ≠ 3 := by rw [C.k1.2.1]; decide
    have kP : P.k ≠ 1 ∧ P.k ≠ 3 := by rw [C.k1.2.2]; decide
    have hst : zet S a = true := by rw [eS]; exact star_of (by omega)
    have hpS := C.nS.plain
    have np : ¬ (plainT a = false ∨ plainT S = false) := by rw [hpl, hpS]; simp
    have np2 : ¬ (plainT S = false ∨ plainT a = false) := by rw [hpl, hpS]; simp
    have np3 : ¬ (plainT S = false ∨ plainT S = false) := by rw [hpS]; simp
    have m1 : zde a S = some P := by unfold zde; rw [if_neg np, if_pos hst, hP]
    have nst : zet a S = false := by unfold zet; rw [decide_eq_false h5]; rfl
    have m2 : zde S a = some P := by unfold zde; rw [if_neg np2, nst, if_neg (by decide), if_pos hst, hP]
    have nss : zet S S = false := by
     cases q : zet S S with
     | false => rfl
     | true => have := (zkg C.nS.cr q).1; omega
    have m3 : zde S S = some S := by
     unfold zde
     rw [if_neg np3, nss, if_neg (by decide), if_neg (by decide), if_pos ⟨rf s2, C.k1.2.1, by rw [eS]; rfl⟩]
    obtain ⟨w1, w2⟩ := zrz hnf C.nS C.nP ka kS kP (by omega) (by omega) (by omega) m1
    obtain ⟨v1, v2⟩ := zrz C.nS hnf C.nP kS ka kP (by omega) (by omega) (by omega) m2
    obtain ⟨y1, y2⟩ := zrz C.nS C.nS C.nS kS kS kS (by omega) (by omega) (by omega) m3
    have l1 : (zam [a, S]).length ≤ 2 ^ 40 := by simp only [zam, List.length_append, List.length_nil]; omega
    have l2 : (zam [S, a]).length ≤ 2 ^ 40 := by simp only [zam, List.length_append, List.length_nil]; omega
    have l3 : (zam [S, S]).length ≤ 2 ^ 40 := by simp only [zam, List.length_append, List.length_nil]; omega
    refine zz l1 (zan fun x40 e40 => ?_)
    subst e40
    refine zdl P (by rw [zs9 w1, w2]) (zz ⟨by omega, by omega⟩ (zan fun x42 e42 => ?_))
    rw [rf s3] at e42
    subst e42
    refine zby rfl (zz l2 (zan fun x43 e43 => ?_))
    subst e43
    refine zdl P (by rw [zs9 v1, v2]) (zz ⟨by omega, by omega⟩ (zan fun x45 e45 => ?_))
    rw [rf s3] at e45
    subst e45
    refine zby rfl (zz l3 (zan fun x46 e46 => ?_))
    subst e46
    refine zdl S (by rw [zs9 y1, y2]) (zz ⟨by omega, by omega⟩ (zan fun x48 e48 => ?_))
    rw [rf s2] at e48
    rw [← e48]
end Go.Ab
set_option linter.unusedSimpArgs false
set_option linter.unusedVariables false
namespace Go.Ab
open Go Go.RowKit Go.Fwd Go.Proofs Go.ChangeShapes Go.WideShapes Go.ChangeAt Go.Deep
theorem ownLess : ownKnob Try.prog.godebug = none := by kernel_rfl
theorem laidOut : laidOutB Try.prog = true := by kernel_rfl
def zzx (W : World) : Cx := ⟨fun b o => ∃ v, W.cell? ⟨b, o, none⟩ = some v, [], [], [], W, fun _ => False, fun _ _ => False⟩
theorem gv_base (W : World) : gvBase Try.prog W where
 err := fun n g h e => by
  have h1 : Try.prog.globalNamed "strconv.ErrSyntax" = none := by kernel_rfl
  have h2 : Try.prog.globalNamed "strconv.ErrRange" = none := by kernel_rfl
  rcases h with rfl | rfl
  ·rw [h1] at e; cases e
  ·rw [h2] at e; cases e
 pow := fun g e => by
  have h1 : Try.prog.globalNamed "internal/strconv.uint64pow10" = none := by kernel_rfl
  rw [h1] at e; cases e
 max := fun g e => by
  have h1 : Try.prog.globalNamed "internal/bytealg.MaxLen" = none := by kernel_rfl
  rw [h1] at e; cases e
theorem inv_top (W : World) : Inv (ITP Try.prog) St.empty (zzx W) where
 lens := rfl
 elems := rfl
 κlen := rfl
 κnd := fun s s' b h => by simp [zzx] at h
 box := fun s b t cs h => by simp [zzx] at h
 κF := fun s b t cs h => by simp [zzx] at h
 βlen := rfl
 βnd := by simp [zzx]
 βκ := fun r h => by simp [zzx] at h
 row := fun s r L h => by simp [zzx] at h
 Ok := fun b h => h.elim
 Fcell := fun b o h => h
 gv := ⟨W, gv_base W, Szs.refl _, fun b o v _ hv => ⟨⟨v, hv⟩, hv⟩⟩
theorem z6z {f : FuncId} {args : List AV} {u : Value} (h : Pure (ITP Try.prog) Try.prog f args (.raw u)) (W : World) {vs : List Value} (hr : zbf (ITP Try.prog) (zzx W) args vs) :
 Calls Try.prog f vs.toArray W fun e W' => e = .returned u ∧ Ex W.heap.size W W' := by
 refine (h.2 (zzx W) vs (inv_top W) hr).mono ?_
 rintro e w' ⟨v, Y, rfl, rfl, hE, hIY, hv⟩
 rw [Rep] at hv; subst hv
 exact ⟨rfl, ⟨⟨hE.os, hE.tape, hE.output, hE.size, fun b hb => hE.frame b hb (by simp [zzx]) (by simp [zzx])⟩, hE.drawn⟩⟩
theorem z3p {n : Int} (h : (Lit.int .u8 n).wf = true) : 0 ≤ n ∧ n ≤ 255 := by
 have h1 : IntKind.u8.min = 0 := rfl
 have h2 : IntKind.u8.max = 255 := rfl
 simp only [Lit.wf, Bool.and_eq_true, decide_eq_true_eq] at h
 omega
set_option maxRecDepth 100000 in
theorem z7s : Try.prog.underlying 22 = some (.slice 49) := rfl
theorem cells49 : Try.prog.cellsOf 49 = 3 := by kernel_rfl
set_option maxRecDepth 100000 in
theorem z7a : ∃ f0 f1 f2 : Field, Try.prog.underlying 49 = some (.struct #[f0, f1, f2]) ∧ oneCellFields Try.prog #[f0, f1, f2] = true ∧ Try.prog.underlying f0.type = some (.int .u8) ∧ Try.prog.underlying f1.type = some (.int .u8) ∧ Try.prog.underlying f2.type = some (.int .u8) := ⟨_, _, _, rfl, by kernel_rfl, rfl, rfl, rfl⟩
section
variable {H : Type} {enc : TypeId × Value → H}
set_option maxRecDepth 100000 in
theorem zv6 {W : World} {base : Nat} {spare : Nat → Bool} {held : Bool} {n : Nat} {cs : List Value} {x : DataW H × List MemPlace} (h : DataW.trod enc Try.prog W base spare held n 49 cs = some x) (hl : cs.length = 3) :
 ∃ s : Sm, cs = [.int .u8 (s.1 : Int), .int .u8 (s.2.1 : Int), .int .u8 (s.2.2 : Int)] ∧ s.2.1 < 256 := by
 obtain ⟨f0, f1, f2, hu, hone, t0, t1, t2⟩ := z7a
 obtain ⟨ys, m, _, _, _, hyl, hf⟩ := DataW.trod_struct hu h
 obtain ⟨o0, k0⟩ := hone_of hone 0 f0 rfl
 obtain ⟨o1, k1⟩ := hone_of hone 1 f1 rfl
 obtain ⟨o2, k2⟩ := hone_of hone 2 f2 rfl
 match cs, hl with
 | [c0, c1, c2], _ =>
  match ys, hyl with
  | [y0, y1, y2], _ =>
   have g0 : DataW.trod enc Try.prog W base spare held m f0.type [c0] = some y0 := by simpa [o0, k0] using hf 0 f0 rfl
   have g1 : DataW.trod enc Try.prog W base spare held m f1.type [c1] = some y1 := by simpa [o1, k1] using hf 1 f1 rfl
   have g2 : DataW.trod enc Try.prog W base spare held m f2.type [c2] = some y2 := by simpa [o2, k2] using hf 2 f2 rfl
   obtain ⟨n0, e0, _, w0⟩ := DataW.trod_int t0 g0
   obtain ⟨n1, e1, _, w1⟩ := DataW.trod_int t1 g1
   obtain ⟨n2, e2, _, w2⟩ := DataW.trod_int t2 g2
   simp at e0 e1 e2
   subst e0 e1 e2
   have b0 := z3p w0
   have b1 := z3p w1
   have b2 := z3p w2
   exact ⟨(n0.toNat, n1.toNat, n2.toNat), by simp only [Int.toNat_of_nonneg b0.1, Int.toNat_of_nonneg b1.1, Int.toNat_of_nonneg b2.1], by simp only; omega⟩
theorem zu0 (W : World) (b : Nat) : ∀ (len o : Nat) (g : Nat → Sm), (∀ i, i < len → W.cell? ⟨b, o + i * 3, none⟩ = some (.int .u8 ((g i).1 : Int)) ∧ W.cell? ⟨b, o + i * 3 + 1, none⟩ = some (.int .u8 ((g i).2.1 : Int)) ∧ W.cell? ⟨b, o + i * 3 + 2, none⟩ = some (.int .u8 ((g i).2.2 : Int))) →
 At (ITP Try.prog) (zzx W) (z8h ((List.range len).map g)) b o
 | 0, o, g, _ => by simp [z8h, At]
 | len + 1, o, g, h => by
  rw [List.range_succ_eq_map, List.map_cons, List.map_map, z8h, smc]
  have h0 := h 0 (by omega)
  simp only [Nat.zero_mul, Nat.add_zero] at h0
  obtain ⟨a0, a1, a2⟩ := h0
  have ih := zu0 W b len (o + 3) (g ∘ Nat.succ) (fun i hi => by
   have := h (i + 1) (by omega)
   rw [show o + (i + 1) * 3 = o + 3 + i * 3 by omega] at this
   exact this)
  simp only [List.cons_append, List.nil_append, At]
  exact ⟨⟨⟨_, a0⟩, _, a0, rfl, by rw [Rep]⟩, ⟨⟨_, a1⟩, _, a1, rfl, by rw [Rep]⟩, ⟨⟨_, a2⟩, _, a2, rfl, by rw [Rep]⟩, ih⟩
set_option maxRecDepth 100000 in
theorem z0f {W : World} {base : Nat} {v : Value} {d : DataW H} {p : List MemPlace} (hv : Value.okWide Try.prog W .any base 22 v) (h : DataW.Trod enc Try.prog W 0 (fun _ => true) true 22 v d p) :
 ∃ l : List Sm, (l.length < 2 ^ 63 ∧ ∀ x ∈ l, x.2.1 < 256) ∧ Rep (ITP Try.prog) (zzx W) (.list l.length (z8h l) .none) v := by
 obtain ⟨fuel, hf⟩ := h
 obtain ⟨a0, len, cap, rfl⟩ := okWide_slice z7s hv
 rcases open_slice z7s hf with ⟨h0, _⟩ | ⟨a, len', cap', m, n, D, Pl, hcs, hb, hl, hm, hmm, hx, hi⟩
 ·simp [Value.cells] at h0
  obtain ⟨rfl, rfl, rfl⟩ := h0
  refine ⟨[], by simp, ?_⟩
  rw [Rep]
  exact ⟨none, 0, rfl, ⟨Nat.le_refl _, fun _ => rfl⟩, .inl rfl, trivial⟩
 ·simp [Value.cells] at hcs
  obtain ⟨rfl, rfl, rfl⟩ := hcs
  rw [cells49] at hi
  have hm' : m = cap := by simpa using hmm
  have hcell : ∀ i, i < m → ∃ s : Sm, W.cell? (a.add (i * 3)) = some (.int .u8 (s.1 : Int)) ∧ W.cell? (a.add (i * 3 + 1)) = some (.int .u8 (s.2.1 : Int)) ∧ W.cell? (a.add (i * 3 + 2)) = some (.int .u8 (s.2.2 : Int)) ∧ s.2.1 < 256 := fun i him => by
   obtain ⟨cs', hc, ht⟩ := hi i him
   obtain ⟨_, hcl, hat⟩ := World.cells?_some hc
   obtain ⟨s, rfl, hs⟩ := zv6 ht hcl
   refine ⟨s, ?_, ?_, ?_, hs⟩
   ·have := hat 0 (by omega); rw [Go.Deep.add_add] at this; simpa using this
   ·have := hat 1 (by omega); rw [Go.Deep.add_add] at this; simpa using this
   ·have := hat 2 (by omega); rw [Go.Deep.add_add] at this; simpa using this
  by_cases hz : len = 0
  ·subst hz
   refine ⟨[], by simp, ?_⟩
   rw [Rep]
   exact ⟨some a, cap, rfl, ⟨hl, fun h => by cases h⟩, .inl rfl, trivial⟩
  ·obtain ⟨s0, c0, _⟩ := hcell 0 (by omega)
   have hspot : a = ⟨a.block, a.off, none⟩ := by
    cases a with
    | mk b o sp =>
     cases sp with
     | none => rfl
     | some k =>
      exfalso
      simp [Addr.add, World.cell?] at c0
      split at c0 <;> simp at c0
   have hadd : ∀ j, a.add j = ⟨a.block, a.off + j, none⟩ := fun j => by
    by_cases hj : j = 0
    ·subst hj; simp [Addr.add]; exact hspot
    ·simp [Addr.add, hj]
   let g : Nat → Sm := fun i => if h : i < m then Classical.choose (hcell i h) else (0, 0, 0)
   have hg : ∀ i (him : i < m), W.cell? (a.add (i * 3)) = some (.int .u8 ((g i).1 : Int)) ∧ W.cell? (a.add (i * 3 + 1)) = some (.int .u8 ((g i).2.1 : Int)) ∧ W.cell? (a.add (i * 3 + 2)) = some (.int .u8 ((g i).2.2 : Int)) ∧ (g i).2.1 < 256 := fun i him => by
    have e : g i = Classical.choose (hcell i him) := dif_pos him
    rw [e]; exact Classical.choose_spec (hcell i him)
   have hml : maxLen < 2 ^ 63 := by decide
   refine ⟨(List.range len).map g, ⟨by simp; omega, fun x hx => ?_⟩, ?_⟩
   ·obtain ⟨i, hi', rfl⟩ := List.mem_map.1 hx
    exact (hg i (by have := List.mem_range.1 hi'; omega)).2.2.2
   rw [Rep]
   refine ⟨some a, cap, by simp, ⟨by simpa using hl, fun h => by cases h⟩, .inr ⟨a.block, a.off, by rw [← hspot], zu0 W a.block len a.off g fun i hi => ?_⟩, trivial⟩
   have := hg i (by omega)
   rw [hadd, hadd, hadd] at this
   exact ⟨this.1, this.2.1, this.2.2.1⟩
end
end Go.Ab
set_option linter.unusedSimpArgs false
set_option linter.unusedVariables false
namespace Go.Proofs.Ytmoncghgagmilaa
open Go Go.Ab Go.ChangeShapes Go.WideShapes Go.ChangeAt Go.RowKit Go.Fwd
set_option maxRecDepth 100000 in
theorem rxnormCounts_lifted (os : Os) (started : os.Started) (H : Type) (enc : TypeId × Value → H) :
 ReturnsInHanded {} Try.checked os 5 .any (Rows.rxnormCountsSpec.pre6 enc Try.prog Try.f5 Rows.rxnormCountsRow.domain false) (Rows.rxnormCountsSpec.post enc Try.prog Try.f5 false true false false) := by
 refine returnsInHanded_of_change (C := Try.checked) ownLess started (by kernel_rfl) Try.func5
  (ChangeSpec.witness6 (enc := enc) (C := Try.checked) false ⟨#[], #[.slice .none 0 0], []⟩ 8 (by kernel_rfl) (by kernel_rfl) (by kernel_rfl) (by kernel_rfl)) ?_
 intro W base args ds gs before hval0 hW _ _
 have hval : ∀ (j : Nat) t v, Try.f5.params[j]? = some t → args[j]? = some v → Value.okWide Try.prog W .any base t v := hval0
 have hW' := hW
 obtain ⟨p, q, hA0, hV, rfl, _, _⟩ := hW
 have hA : DataW.TrodAll enc Try.prog W 0 (fun _ => true) true Try.f5.params.toList args.toList ds p := hA0
 rw [show Try.f5.params.toList = [22] from by kernel_rfl] at hA
 obtain ⟨v0, d0, rfl, rfl, h0⟩ := trodAll_one hA
 obtain ⟨rfl, rfl⟩ := trodVars_none hV
 obtain ⟨l0, hl0, hr0⟩ := z0f (hval 0 22 v0 (by kernel_rfl) rfl) h0
 clear hA0 hval0
 simp only [List.append_nil] at hW'
 have hlt : ∀ y ∈ p, y.block < W.heap.size := fun y hy => by simpa using hW'.lt y hy
 refine (z6z (z4o 5 l0 true (z2y l0 hl0)) W (vs := [v0]) ⟨_, _, rfl, hr0, rfl⟩).mono fun e W' ⟨he, hw⟩ => ?_
 subst he
 refine ⟨_, rfl, ?_⟩
 refine ⟨_, _, _, [] ++ [], p, [], hW', ?_, ?_, rfl, hw.toBelow.frame _, fun h => by cases h⟩
 ·exact trodAll_mk1 (shut_bool (show Try.prog.underlying 4 = some .bool from by kernel_rfl) true)
 ·have td : ∀ {v : Value} {d : DataW H} {p : List MemPlace}, DataW.Trod enc Try.prog W 0 (fun _ => true) true 22 v d p → (∀ y ∈ p, y.block < W.heap.size) → DataW.Trod enc Try.prog W' 0 (fun b => decide (b < W.heap.size)) true 22 v d p := fun h hl => Below.trod laidOut (by kernel_rfl) (of_decide_eq_true (by kernel_rfl)) h hw.toBelow hl
  have := trodAll_mk1 (td h0 fun y hy => hlt y (by simp [hy]))
  exact this
theorem rxnormCounts_holds : Rows.RxnormCountsSaid :=
 OpenClaim.holds_of_wide 5 Try.f5 rfl rfl rfl rfl rfl rfl rfl ⟨rfl, rfl, rfl, rfl, rfl⟩ rfl rfl rfl rfl rfl (by kernel_rfl) Try.func5 (by kernel_rfl)
  (of_decide_eq_true (by kernel_rfl)) (by unfold Func.isWrapper; rw [if_neg (by decide +kernel)]; exact ⟨rfl, rfl⟩)
  (fun os started H enc _ => rxnormCounts_lifted os started H enc)
end Go.Proofs.Ytmoncghgagmilaa
