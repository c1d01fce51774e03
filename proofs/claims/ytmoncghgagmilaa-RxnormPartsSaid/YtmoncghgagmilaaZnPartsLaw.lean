/-
  The law RxnormParts of the given program returns true, whatever the slices are, and what came in reads as it did. No condition.
-/
import Derived.Test.YtmoncghgagmilaaZnVf
import Derived.Test.YtmoncghgagmilaaZnX1
import Derived.Test.YtmoncghgagmilaaZnVb
import Derived.ProofKit
import Derived.Laws.IdiomArrays
import Derived.Deep.Slices
import Derived.Deep.Fields
import Derived.ChangeSame
set_option linter.unusedSimpArgs false
set_option linter.unusedVariables false
namespace Go.Ab
open Go Go.RowKit Go.Fwd Go.Proofs
theorem zki {t : Tr} (h : CS 998 t) : zmy t = (normT t, 0) := by rw [zmy, if_pos (h.clean (by omega))]
theorem zrh {t : Tr} {n : Nat} (h : CS n t) (hn : n ≤ 10000) : zeo t t = true := z0s (h.light hn)
theorem zk9 (x : Tr) : zcz (gp x) = false := by rw [znz]; rfl
theorem zo7 {x : Tr} (h : CS 997 x) : normT (gp x) = gp (normT x) := by
 rw [zi9, zuf, if_pos (show (gp x).k = 6 from rfl)]
 have hx : CS 998 x := h.mono (by omega)
 have := zq3 hx
 exact (z1f (x := normT x) ⟨zw8 hx, by have := h.2; omega⟩).1
theorem zx2 {a b : Tr} (h : CLn 1000 [gp a, gp b, gp a]) : orT [gp a, gp b, gp a] = al [gp a, gp b, gp a] := by
 rw [or_eq h.1 (by simp) h.2]; rfl
theorem zrs {a b : Tr} (h : CLn 1000 [gp a, gp b, gp a]) : zm8 [gp a, gp b, gp a] = ct [gp a, gp b, gp a] := by
 rw [z0v h.1 h.2]; rfl
theorem z7g {a b : Tr} {n m : Nat} (ha : CS n a) (hb : CS m b) : CLn (2 * n + m + 3) [gp a, gp b, gp a] := by
 have h1 : CR (gp a) := (za7 _).2 ⟨ziq _, by rw [gp, Tr.l, zaf]; exact ⟨ha.1, zbp⟩⟩
 have h2 : CR (gp b) := (za7 _).2 ⟨ziq _, by rw [gp, Tr.l, zaf]; exact ⟨hb.1, zbp⟩⟩
 refine ⟨(zaf _ _).2 ⟨h1, (zaf _ _).2 ⟨h2, (zaf _ _).2 ⟨h1, zbp⟩⟩⟩, ?_⟩
 have e1 : (pre (gp a)).length = 1 + (pre a).length := zgj _ _ _ _ _
 have e2 : (pre (gp b)).length = 1 + (pre b).length := zgj _ _ _ _ _
 have := ha.2; have := hb.2
 simp only [zal, List.length_append, List.length_nil]; omega
theorem cs_al {l : List Tr} {n : Nat} (h : CLn n l) (h1 : 1 < l.length) (h2 : ∀ t ∈ l, t.k ≠ 4) : CS (n + 1) (al l) := ⟨(za7 _).2 ⟨ztt h1 h2, h.1⟩, by have := h.2; rw [al, pre, List.length_cons]; omega⟩
theorem cs_ct {l : List Tr} {n : Nat} (h : CLn n l) (h1 : 1 < l.length) (h2 : ∀ t ∈ l, t.k ≠ 1 ∧ t.k ≠ 3) : CS (n + 1) (ct l) := ⟨(za7 _).2 ⟨ztw h1 h2, h.1⟩, by have := h.2; rw [ct, pre, List.length_cons]; omega⟩
theorem gk3 {a b t : Tr} (h : t ∈ [gp a, gp b, gp a]) : t.k = 6 := by
 simp only [List.mem_cons, List.not_mem_nil, or_false] at h
 rcases h with rfl | rfl | rfl <;> rfl
theorem alt_gps {a b : Tr} (h : CLn 998 [gp a, gp b, gp a]) : zzs [gp a, gp b, gp a] = al [gp a, gp b, gp a] := by
 have ho := zx2 (h.mono (by omega))
 have hp : zcz (al [gp a, gp b, gp a]) = false := by rw [znz]; simp [al, Tr.l, zk9]
 unfold zzs
 rw [ho, if_neg (by simp [al, Tr.k]), hp, if_pos rfl]
 have : zc1 (al [gp a, gp b, gp a]).l = [gp a, gp b, gp a] := by
  show zc1 [gp a, gp b, gp a] = _
  simp [zc1, zrf, zk9]
 rw [this, ho]
theorem cat_gps {a b : Tr} (h : CLn 999 [gp a, gp b, gp a]) : zyp [gp a, gp b, gp a] = ct [gp a, gp b, gp a] := by
 have hs := zrs (h.mono (by omega))
 have hc : CS 1000 (ct [gp a, gp b, gp a]) := cs_ct h (by simp) fun t ht => by have := gk3 ht; omega
 have hm : ∀ x y : Tr, ze1 (gp x) y = none := fun x y => by unfold ze1; rw [zk9, if_pos (.inl rfl)]
 rw [zyp, hs, zh6 hc, if_pos (show (ct [gp a, gp b, gp a]).k = 3 from rfl)]
 have : zci (ct [gp a, gp b, gp a]).l = none := by
  show zci [gp a, gp b, gp a] = none
  simp [zci, hm]
 rw [this]
theorem z5t (k l : List Sm) (hk : k.length < 2 ^ 63 ∧ ∀ y ∈ k, y.2.1 < 256) (hl : l.length < 2 ^ 63 ∧ ∀ y ∈ l, y.2.1 < 256) : zro k l = some true := by
 have A : CS 50 (zl5 k) := (z2t k).cs; have B : CS 50 (zl5 l) := (z2t l).cs
 unfold zro
 refine zr hk (z7 fun a ea => zr hl (z7 fun b eb => ?_))
 rw [ea] at A
 rw [eb] at B
 have A8 : CS 998 a := A.mono (by omega); have B8 : CS 998 b := B.mono (by omega)
 have a1 := A.2; have b1 := B.2
 have X : CS 50 (normT a) := ⟨zw8 A8, by have := zq3 A8; omega⟩
 have Y : CS 50 (normT b) := ⟨zw8 B8, by have := zq3 B8; omega⟩
 have x1 := X.2; have y1 := Y.2
 have cg : ∀ t : Tr, CS 50 t → zcr t = gp t ∧ CS 51 (gp t) := fun t ht => by
  have := z1f (ht.mono (m := 9999) (by omega)); exact ⟨this.1, this.2.mono (by have := ht.2; omega)⟩
 obtain ⟨ga, GA⟩ := cg a A; obtain ⟨gb, GB⟩ := cg b B; obtain ⟨gx, GX⟩ := cg _ X; obtain ⟨gy, GY⟩ := cg _ Y
 have ga1 := GA.2; have gb1 := GB.2; have gx1 := GX.2; have gy1 := GY.2
 have Lab := z7g A B; have Lxy := z7g X Y
 have lab := Lab.2; have lxy := Lxy.2
 have hal : ∀ {s t : Tr}, CLn (2 * 50 + 50 + 3) [gp s, gp t, gp s] → CS 200 (al [gp s, gp t, gp s]) := fun h => (cs_al h (by simp) fun t ht => by have := gk3 ht; omega).mono (by omega)
 have hct : ∀ {s t : Tr}, CLn (2 * 50 + 50 + 3) [gp s, gp t, gp s] → CS 200 (ct [gp s, gp t, gp s]) := fun h => (cs_ct h (by simp) fun t ht => by have := gk3 ht; omega).mono (by omega)
 have nal : normT (al [gp a, gp b, gp a]) = al [gp (normT a), gp (normT b), gp (normT a)] := by
  rw [zi9, zuf, if_neg (by simp [al, Tr.k]), if_neg (by simp [al, Tr.k]), if_neg (by simp [al, Tr.k]), if_pos (show (al [gp a, gp b, gp a]).k = 4 from rfl)]
  show zzs [normT (gp a), normT (gp b), normT (gp a)] = _
  rw [zo7 (A.mono (by omega)), zo7 (B.mono (by omega)), alt_gps (Lxy.mono (by omega))]
 have nct : normT (ct [gp a, gp b, gp a]) = ct [gp (normT a), gp (normT b), gp (normT a)] := by
  rw [zi9, zuf, if_neg (by simp [ct, Tr.k]), if_neg (by simp [ct, Tr.k]), if_pos (show (ct [gp a, gp b, gp a]).k = 3 from rfl)]
  show zyp [normT (gp a), normT (gp b), normT (gp a)] = _
  rw [zo7 (A.mono (by omega)), zo7 (B.mono (by omega)), cat_gps (Lxy.mono (by omega))]
 refine zr ⟨.inl A8, by omega⟩ (z7 fun x3 e3 => zr ⟨.inl B8, by omega⟩ (z7 fun x4 e4 => ?_))
 rw [zki A8] at e3
 rw [zki B8] at e4
 subst e3 e4
 refine zr (by omega) (z7 fun x5 e5 => ?_)
 rw [ga] at e5
 subst e5
 have GA8 : CS 998 (gp a) := GA.mono (by omega)
 refine zr ⟨.inl GA8, by omega⟩ (z7 fun x6 e6 => ?_)
 rw [zki GA8, zo7 (A.mono (by omega))] at e6
 subst e6
 refine zr (by simp only; omega) (zr (by simp only; omega) (zbo rfl (zr (by simp only; omega) (z7 fun x7 e7 => ?_))))
 simp only at e7
 rw [gx] at e7
 subst e7
 refine zr (by simp only; omega) (z7 fun x8 e8 => ?_)
 simp only at e8
 rw [zrh GX (by omega)] at e8
 subst e8
 refine zbo rfl (zr (by simp only; omega) (z7 fun x9 e9 => ?_))
 have : znu (gp (normT a)) = false := by rw [znu, zk9, Bool.and_false]
 simp only at e9
 rw [this] at e9
 subst e9
 refine zbo rfl (zr (by simp only; omega) (z7 fun x10 e10 => zr (by omega) (z7 fun x11 e11 => ?_)))
 simp only at e10
 have na : zfq a = nullT a := by rw [zfq, A.clean (by omega), Bool.true_and]
 have nb : zfq b = nullT b := by rw [zfq, B.clean (by omega), Bool.true_and]
 have ng : zfq (gp (normT a)) = nullT a := by rw [zfq, GX.clean (by omega), Bool.true_and, gp, zkv, zkw A8]
 rw [ng] at e10
 rw [na] at e11
 subst e10 e11
 refine zbo (by simp) (zr (by omega) (z7 fun x12 e12 => zr (by omega) (z7 fun x13 e13 => ?_)))
 rw [ga] at e12
 rw [gb] at e13
 subst e12 e13
 refine zr (by omega) (z7 fun x14 e14 => ?_)
 rw [zx2 (Lab.mono (by omega))] at e14
 subst e14
 have Cal : CS 998 (al [gp a, gp b, gp a]) := (hal Lab).mono (by omega)
 have Cct : CS 998 (ct [gp a, gp b, gp a]) := (hct Lab).mono (by omega)
 have cal1 := (hal Lab).2; have cct1 := (hct Lab).2
 have dal1 := (hal Lxy).2; have dct1 := (hct Lxy).2
 refine zr ⟨.inl Cal, by omega⟩ (z7 fun x15 e15 => zr (by omega) (z7 fun x16 e16 => ?_))
 rw [zki Cal, nal] at e15
 rw [zrs (Lab.mono (by omega))] at e16
 subst e15 e16
 refine zr ⟨.inl Cct, by omega⟩ (z7 fun x17 e17 => zr (by simp only; omega) (z7 fun x18 e18 => zr (by simp only; omega) (z7 fun x19 e19 => ?_)))
 simp only at e18 e19
 rw [zki Cct, nct] at e17
 rw [gx] at e18
 rw [gy] at e19
 subst e17 e18 e19
 refine zr (by simp only; omega) (zbn rfl (zr (by omega) (z7 fun x20 e20 => zr ?_ (z7 fun x21 e21 => ?_))))
 ·rw [← e20, zx2 (Lxy.mono (by omega))]; simp only; omega
 simp only at e21
 rw [zx2 (Lxy.mono (by omega))] at e20
 subst e20
 rw [zrh (hal Lxy) (by omega)] at e21
 subst e21
 refine zbn rfl (zr (by omega) (z7 fun x22 e22 => zr ?_ (z7 fun x23 e23 => ?_)))
 ·rw [← e22, zrs (Lxy.mono (by omega))]; simp only; omega
 simp only at e23
 rw [zrs (Lxy.mono (by omega))] at e22
 subst e22
 rw [zrh (hct Lxy) (by omega)] at e23
 subst e23
 have nA : zfq (al [gp (normT a), gp (normT b), gp (normT a)]) = (nullT a || nullT b) := by
  rw [zfq, (hal Lxy).clean (by omega), Bool.true_and, al, zr9]
  simp only [List.any_cons, List.any_nil, gp, zkv, zkw A8, zkw B8, Bool.or_false]
  cases nullT a <;> cases nullT b <;> rfl
 have nC : zfq (ct [gp (normT a), gp (normT b), gp (normT a)]) = (nullT a && nullT b) := by
  rw [zfq, (hct Lxy).clean (by omega), Bool.true_and, ct, zr2]
  simp only [List.all_cons, List.all_nil, gp, zkv, zkw A8, zkw B8, Bool.and_true]
  cases nullT a <;> cases nullT b <;> rfl
 refine zbn rfl (zr (by simp only; omega) (z7 fun x24 e24 => zr (by omega) (z7 fun x25 e25 => ?_)))
 simp only at e24
 rw [nC] at e24
 rw [na] at e25
 subst e24 e25
 cases hna : nullT a with
 | true =>
  refine zbn rfl (zr (by omega) (z7 fun x26 e26 => ?_))
  rw [nb] at e26
  subst e26
  refine zbn (by simp) (zr (by simp only; omega) (z7 fun x27 e27 => zr (by omega) (z7 fun x28 e28 => ?_)))
  simp only at e27
  rw [nA] at e27
  rw [na, hna] at e28
  subst e27 e28
  refine zbn rfl ?_
  rw [hna]; rfl
 | false =>
  refine zbo rfl (zbn rfl (zr (by simp only; omega) (z7 fun x30 e30 => zr (by omega) (z7 fun x31 e31 => ?_))))
  simp only at e30
  rw [nA] at e30
  rw [na, hna] at e31
  subst e30 e31
  refine zbo rfl (zr (by omega) (z7 fun x32 e32 => ?_))
  rw [nb] at e32
  subst e32
  rw [hna]; simp
end Go.Ab
set_option linter.unusedSimpArgs false
set_option linter.unusedVariables false
namespace Go.Ab
open Go Go.RowKit Go.Fwd Go.Proofs Go.ChangeShapes Go.WideShapes Go.ChangeAt Go.Deep
theorem ownLess : ownKnob Try.prog.godebug = none := by kernel_rfl
theorem laidOut : laidOutB Try.prog = true := by kernel_rfl
def zzi (W : World) : Cx := ⟨fun b o => ∃ v, W.cell? ⟨b, o, none⟩ = some v, [], [], [], W, fun _ => False, fun _ _ => False⟩
theorem gv_base (W : World) : gvBase Try.prog W where
 err := fun n g h e => by
  have h1 : Try.prog.globalNamed "strconv.ErrSyntax" = none := by kernel_rfl
  have h2 : Try.prog.globalNamed "strconv.ErrRange" = none := by kernel_rfl
  rcases h with rfl | rfl
  ·rw [h1] at e; cases e
  ·rw [h2] at e; cases e
 pow := fun g e => by
  have h1 : Try.prog.globalNamed "internal/strconv.uint64pow10" = none := by kernel_rfl
  rw [h1] at e; cases e
 max := fun g e => by
  have h1 : Try.prog.globalNamed "internal/bytealg.MaxLen" = none := by kernel_rfl
  rw [h1] at e; cases e
theorem inv_top (W : World) : Inv (ITP Try.prog) St.empty (zzi W) where
 lens := rfl
 elems := rfl
 κlen := rfl
 κnd := fun s s' b h => by simp [zzi] at h
 box := fun s b t cs h => by simp [zzi] at h
 κF := fun s b t cs h => by simp [zzi] at h
 βlen := rfl
 βnd := by simp [zzi]
 βκ := fun r h => by simp [zzi] at h
 row := fun s r L h => by simp [zzi] at h
 Ok := fun b h => h.elim
 Fcell := fun b o h => h
 gv := ⟨W, gv_base W, Szs.refl _, fun b o v _ hv => ⟨⟨v, hv⟩, hv⟩⟩
theorem z59 {f : FuncId} {args : List AV} {u : Value} (h : Pure (ITP Try.prog) Try.prog f args (.raw u)) (W : World) {vs : List Value} (hr : za2 (ITP Try.prog) (zzi W) args vs) :
 Calls Try.prog f vs.toArray W fun e W' => e = .returned u ∧ Ex W.heap.size W W' := by
 refine (h.2 (zzi W) vs (inv_top W) hr).mono ?_
 rintro e w' ⟨v, Y, rfl, rfl, hE, hIY, hv⟩
 rw [Rep] at hv; subst hv
 exact ⟨rfl, ⟨⟨hE.os, hE.tape, hE.output, hE.size, fun b hb => hE.frame b hb (by simp [zzi]) (by simp [zzi])⟩, hE.drawn⟩⟩
theorem z0t {n : Int} (h : (Lit.int .u8 n).wf = true) : 0 ≤ n ∧ n ≤ 255 := by
 have h1 : IntKind.u8.min = 0 := rfl
 have h2 : IntKind.u8.max = 255 := rfl
 simp only [Lit.wf, Bool.and_eq_true, decide_eq_true_eq] at h
 omega
set_option maxRecDepth 100000 in
theorem z7c : Try.prog.underlying 22 = some (.slice 49) := rfl
theorem cells49 : Try.prog.cellsOf 49 = 3 := by kernel_rfl
set_option maxRecDepth 100000 in
theorem z5q : ∃ f0 f1 f2 : Field, Try.prog.underlying 49 = some (.struct #[f0, f1, f2]) ∧ oneCellFields Try.prog #[f0, f1, f2] = true ∧ Try.prog.underlying f0.type = some (.int .u8) ∧ Try.prog.underlying f1.type = some (.int .u8) ∧ Try.prog.underlying f2.type = some (.int .u8) := ⟨_, _, _, rfl, by kernel_rfl, rfl, rfl, rfl⟩
section
variable {H : Type} {enc : TypeId × Value → H}
set_option maxRecDepth 100000 in
theorem zvh {W : World} {base : Nat} {spare : Nat → Bool} {held : Bool} {n : Nat} {cs : List Value} {x : DataW H × List MemPlace} (h : DataW.trod enc Try.prog W base spare held n 49 cs = some x) (hl : cs.length = 3) :
 ∃ s : Sm, cs = [.int .u8 (s.1 : Int), .int .u8 (s.2.1 : Int), .int .u8 (s.2.2 : Int)] ∧ s.2.1 < 256 := by
 obtain ⟨f0, f1, f2, hu, hone, t0, t1, t2⟩ := z5q
 obtain ⟨ys, m, _, _, _, hyl, hf⟩ := DataW.trod_struct hu h
 obtain ⟨o0, k0⟩ := hone_of hone 0 f0 rfl
 obtain ⟨o1, k1⟩ := hone_of hone 1 f1 rfl
 obtain ⟨o2, k2⟩ := hone_of hone 2 f2 rfl
 match cs, hl with
 | [c0, c1, c2], _ =>
  match ys, hyl with
  | [y0, y1, y2], _ =>
   have g0 : DataW.trod enc Try.prog W base spare held m f0.type [c0] = some y0 := by simpa [o0, k0] using hf 0 f0 rfl
   have g1 : DataW.trod enc Try.prog W base spare held m f1.type [c1] = some y1 := by simpa [o1, k1] using hf 1 f1 rfl
   have g2 : DataW.trod enc Try.prog W base spare held m f2.type [c2] = some y2 := by simpa [o2, k2] using hf 2 f2 rfl
   obtain ⟨n0, e0, _, w0⟩ := DataW.trod_int t0 g0
   obtain ⟨n1, e1, _, w1⟩ := DataW.trod_int t1 g1
   obtain ⟨n2, e2, _, w2⟩ := DataW.trod_int t2 g2
   simp at e0 e1 e2
   subst e0 e1 e2
   have b0 := z0t w0
   have b1 := z0t w1
   have b2 := z0t w2
   exact ⟨(n0.toNat, n1.toNat, n2.toNat), by simp only [Int.toNat_of_nonneg b0.1, Int.toNat_of_nonneg b1.1, Int.toNat_of_nonneg b2.1], by simp only; omega⟩
theorem zs2 (W : World) (b : Nat) : ∀ (len o : Nat) (g : Nat → Sm), (∀ i, i < len → W.cell? ⟨b, o + i * 3, none⟩ = some (.int .u8 ((g i).1 : Int)) ∧ W.cell? ⟨b, o + i * 3 + 1, none⟩ = some (.int .u8 ((g i).2.1 : Int)) ∧ W.cell? ⟨b, o + i * 3 + 2, none⟩ = some (.int .u8 ((g i).2.2 : Int))) →
 At (ITP Try.prog) (zzi W) (z63 ((List.range len).map g)) b o
 | 0, o, g, _ => by simp [z63, At]
 | len + 1, o, g, h => by
  rw [List.range_succ_eq_map, List.map_cons, List.map_map, z63, smc]
  have h0 := h 0 (by omega)
  simp only [Nat.zero_mul, Nat.add_zero] at h0
  obtain ⟨a0, a1, a2⟩ := h0
  have ih := zs2 W b len (o + 3) (g ∘ Nat.succ) (fun i hi => by
   have := h (i + 1) (by omega)
   rw [show o + (i + 1) * 3 = o + 3 + i * 3 by omega] at this
   exact this)
  simp only [List.cons_append, List.nil_append, At]
  exact ⟨⟨⟨_, a0⟩, _, a0, rfl, by rw [Rep]⟩, ⟨⟨_, a1⟩, _, a1, rfl, by rw [Rep]⟩, ⟨⟨_, a2⟩, _, a2, rfl, by rw [Rep]⟩, ih⟩
set_option maxRecDepth 100000 in
theorem zqp {W : World} {base : Nat} {v : Value} {d : DataW H} {p : List MemPlace} (hv : Value.okWide Try.prog W .any base 22 v) (h : DataW.Trod enc Try.prog W 0 (fun _ => true) true 22 v d p) :
 ∃ l : List Sm, (l.length < 2 ^ 63 ∧ ∀ x ∈ l, x.2.1 < 256) ∧ Rep (ITP Try.prog) (zzi W) (.list l.length (z63 l) .none) v := by
 obtain ⟨fuel, hf⟩ := h
 obtain ⟨a0, len, cap, rfl⟩ := okWide_slice z7c hv
 rcases open_slice z7c hf with ⟨h0, _⟩ | ⟨a, len', cap', m, n, D, Pl, hcs, hb, hl, hm, hmm, hx, hi⟩
 ·simp [Value.cells] at h0
  obtain ⟨rfl, rfl, rfl⟩ := h0
  refine ⟨[], by simp, ?_⟩
  rw [Rep]
  exact ⟨none, 0, rfl, ⟨Nat.le_refl _, fun _ => rfl⟩, .inl rfl, trivial⟩
 ·simp [Value.cells] at hcs
  obtain ⟨rfl, rfl, rfl⟩ := hcs
  rw [cells49] at hi
  have hm' : m = cap := by simpa using hmm
  have hcell : ∀ i, i < m → ∃ s : Sm, W.cell? (a.add (i * 3)) = some (.int .u8 (s.1 : Int)) ∧ W.cell? (a.add (i * 3 + 1)) = some (.int .u8 (s.2.1 : Int)) ∧ W.cell? (a.add (i * 3 + 2)) = some (.int .u8 (s.2.2 : Int)) ∧ s.2.1 < 256 := fun i him => by
   obtain ⟨cs', hc, ht⟩ := hi i him
   obtain ⟨_, hcl, hat⟩ := World.cells?_some hc
   obtain ⟨s, rfl, hs⟩ := zvh ht hcl
   refine ⟨s, ?_, ?_, ?_, hs⟩
   ·have := hat 0 (by omega); rw [Go.Deep.add_add] at this; simpa using this
   ·have := hat 1 (by omega); rw [Go.Deep.add_add] at this; simpa using this
   ·have := hat 2 (by omega); rw [Go.Deep.add_add] at this; simpa using this
  by_cases hz : len = 0
  ·subst hz
   refine ⟨[], by simp, ?_⟩
   rw [Rep]
   exact ⟨some a, cap, rfl, ⟨hl, fun h => by cases h⟩, .inl rfl, trivial⟩
  ·obtain ⟨s0, c0, _⟩ := hcell 0 (by omega)
   have hspot : a = ⟨a.block, a.off, none⟩ := by
    cases a with
    | mk b o sp =>
     cases sp with
     | none => rfl
     | some k =>
      exfalso
      simp [Addr.add, World.cell?] at c0
      split at c0 <;> simp at c0
   have hadd : ∀ j, a.add j = ⟨a.block, a.off + j, none⟩ := fun j => by
    by_cases hj : j = 0
    ·subst hj; simp [Addr.add]; exact hspot
    ·simp [Addr.add, hj]
   let g : Nat → Sm := fun i => if h : i < m then Classical.choose (hcell i h) else (0, 0, 0)
   have hg : ∀ i (him : i < m), W.cell? (a.add (i * 3)) = some (.int .u8 ((g i).1 : Int)) ∧ W.cell? (a.add (i * 3 + 1)) = some (.int .u8 ((g i).2.1 : Int)) ∧ W.cell? (a.add (i * 3 + 2)) = some (.int .u8 ((g i).2.2 : Int)) ∧ (g i).2.1 < 256 := fun i him => by
    have e : g i = Classical.choose (hcell i him) := dif_pos him
    rw [e]; exact Classical.choose_spec (hcell i him)
   have hml : maxLen < 2 ^ 63 := by decide
   refine ⟨(List.range len).map g, ⟨by simp; omega, fun x hx => ?_⟩, ?_⟩
   ·obtain ⟨i, hi', rfl⟩ := List.mem_map.1 hx
    exact (hg i (by have := List.mem_range.1 hi'; omega)).2.2.2
   rw [Rep]
   refine ⟨some a, cap, by simp, ⟨by simpa using hl, fun h => by cases h⟩, .inr ⟨a.block, a.off, by rw [← hspot], zs2 W a.block len a.off g fun i hi => ?_⟩, trivial⟩
   have := hg i (by omega)
   rw [hadd, hadd, hadd] at this
   exact ⟨this.1, this.2.1, this.2.2.1⟩
end
end Go.Ab
set_option linter.unusedSimpArgs false
set_option linter.unusedVariables false
namespace Go.Proofs.Ytmoncghgagmilaa
open Go Go.Ab Go.ChangeShapes Go.WideShapes Go.ChangeAt Go.RowKit Go.Fwd
set_option maxRecDepth 100000 in
theorem rxnormParts_lifted (os : Os) (started : os.Started) (H : Type) (enc : TypeId × Value → H) :
 ReturnsInHanded {} Try.checked os 4 .any (Rows.rxnormPartsSpec.pre6 enc Try.prog Try.f4 Rows.rxnormPartsRow.domain false) (Rows.rxnormPartsSpec.post enc Try.prog Try.f4 false true false false) := by
 refine returnsInHanded_of_change (C := Try.checked) ownLess started (by kernel_rfl) Try.func4
  (ChangeSpec.witness6 (enc := enc) (C := Try.checked) false ⟨#[], #[.slice .none 0 0, .slice .none 0 0], []⟩ 8 (by kernel_rfl) (by kernel_rfl) (by kernel_rfl) (by kernel_rfl)) ?_
 intro W base args ds gs before hval0 hW _ _
 have hval : ∀ (j : Nat) t v, Try.f4.params[j]? = some t → args[j]? = some v → Value.okWide Try.prog W .any base t v := hval0
 have hW' := hW
 obtain ⟨p, q, hA0, hV, rfl, _, _⟩ := hW
 have hA : DataW.TrodAll enc Try.prog W 0 (fun _ => true) true Try.f4.params.toList args.toList ds p := hA0
 rw [show Try.f4.params.toList = [22, 22] from by kernel_rfl] at hA
 obtain ⟨v0, v1, d0, d1, p0, p1, rfl, rfl, rfl, h0, h1⟩ := trodAll_two hA
 obtain ⟨rfl, rfl⟩ := trodVars_none hV
 obtain ⟨l0, hl0, hr0⟩ := zqp (hval 0 22 v0 (by kernel_rfl) rfl) h0
 obtain ⟨l1, hl1, hr1⟩ := zqp (hval 1 22 v1 (by kernel_rfl) rfl) h1
 clear hA0 hval0
 simp only [List.append_nil] at hW'
 have hlt : ∀ y ∈ p0 ++ p1, y.block < W.heap.size := fun y hy => by simpa using hW'.lt y hy
 refine (z59 (z6t l0 l1 true (z5t l0 l1 hl0 hl1)) W (vs := [v0, v1]) ⟨_, _, rfl, hr0, _, _, rfl, hr1, rfl⟩).mono fun e W' ⟨he, hw⟩ => ?_
 subst he
 refine ⟨_, rfl, ?_⟩
 refine ⟨_, _, _, [] ++ [], p0 ++ p1, [], hW', ?_, ?_, rfl, hw.toBelow.frame _, fun h => by cases h⟩
 ·exact trodAll_mk1 (shut_bool (show Try.prog.underlying 4 = some .bool from by kernel_rfl) true)
 ·have td : ∀ {v : Value} {d : DataW H} {p : List MemPlace}, DataW.Trod enc Try.prog W 0 (fun _ => true) true 22 v d p → (∀ y ∈ p, y.block < W.heap.size) → DataW.Trod enc Try.prog W' 0 (fun b => decide (b < W.heap.size)) true 22 v d p := fun h hl => Below.trod laidOut (by kernel_rfl) (of_decide_eq_true (by kernel_rfl)) h hw.toBelow hl
  have := trodAll_mk2 (td h0 fun y hy => hlt y (by simp [hy])) (td h1 fun y hy => hlt y (by simp [hy]))
  exact this
theorem rxnormParts_holds : Rows.RxnormPartsSaid :=
 OpenClaim.holds_of_wide 4 Try.f4 rfl rfl rfl rfl rfl rfl rfl ⟨rfl, rfl, rfl, rfl, rfl⟩ rfl rfl rfl rfl rfl (by kernel_rfl) Try.func4 (by kernel_rfl)
  (of_decide_eq_true (by kernel_rfl)) (by unfold Func.isWrapper; rw [if_neg (by decide +kernel)]; exact ⟨rfl, rfl⟩)
  (fun os started H enc _ => rxnormParts_lifted os started H enc)
end Go.Proofs.Ytmoncghgagmilaa
