/-
  RxTogether: the walk.
-/
import Derived.Test.YtaocggpaiafeeaaZrxAw
import Derived.Test.YtaocggpaiafeeaaZrxPj
set_option linter.unusedSimpArgs false
set_option linter.unusedVariables false
namespace Go.Ab
open Go Go.RowKit Go.Fwd Go.Proofs

section
variable {IT : IterP} {P : Program} {W : Owed}
theorem hB_done {ops : Array Oper} {Q : List AV → St → Prop} {l : List Oper} {σ σ' : St} {S S' : List AV} {ps : Pend} {n : Nat} (hn : σ.boxes.length = n) (hσ : pendσ σ ps = σ') (hS : pendS n ps S = S') (k : aops IT P W ops Q l S' σ') :
    aheadB IT P ops σ (fun S' ps => aops IT P W ops Q l (pendS σ.boxes.length ps S') (pendσ σ ps)) [] S ps := by
  show aops IT P W ops Q l (pendS σ.boxes.length ps S) (pendσ σ ps)
  rw [hn, hσ, hS]; exact k
end
theorem seq_CS {l : List Tr} (h : CRL l) (hl : (preL l).length ≤ 1000) : CR (seqT l) ∧ (pre (seqT l)).length ≤ (preL l).length + 1 := by
  rw [seq_eq h hl]
  have := flatJ_preL 3 l
  have h2 := endJ_len 3 (flatJ 3 l)
  exact ⟨endJ3_CR (flat3_good h), by omega⟩
theorem or_CS {l : List Tr} (h : CRL l) (hn : l ≠ []) (hl : (preL l).length ≤ 1000) : CR (orT l) ∧ (pre (orT l)).length ≤ (preL l).length + 1 := by
  rw [or_eq h hn hl]
  have := flatJ_preL 4 l
  have h2 := endJ_len 4 (flatJ 4 l)
  exact ⟨endJ4_CR (flat4_good h), by omega⟩
theorem seq_l {l m : List Tr} (hl : CRL l) (hm : CRL m) (h : (preL l).length + (preL m).length ≤ 900) : seqT (seqT l :: m) = seqT (l ++ m) := by
  have c := seq_CS hl (by omega)
  rw [seq_eq ((CRL_cons _ _).2 ⟨c.1, hm⟩) (by rw [preL, List.length_append]; omega), seq_eq ((CRL_append _ _).2 ⟨hl, hm⟩) (by rw [preL_append, List.length_append]; omega), seq_eq hl (by omega), flatJ_append,
    show endJ 3 (flatJ 3 l) :: m = [endJ 3 (flatJ 3 l)] ++ m from rfl, flatJ_append, flat3_end (flat3_good hl)]
theorem seq_r {l m : List Tr} (hl : CRL l) (hm : CRL m) (h : (preL l).length + (preL m).length ≤ 900) : seqT (l ++ [seqT m]) = seqT (l ++ m) := by
  have c := seq_CS hm (by omega)
  rw [seq_eq ((CRL_append _ _).2 ⟨hl, (CRL_cons _ _).2 ⟨c.1, CRL_nil⟩⟩) (by rw [preL_append, List.length_append]; simp only [preL, List.append_nil]; omega), seq_eq ((CRL_append _ _).2 ⟨hl, hm⟩) (by rw [preL_append, List.length_append]; omega), seq_eq hm (by omega), flatJ_append,
    flatJ_append, flat3_end (flat3_good hm)]
theorem or_l {l m : List Tr} (hl : CRL l) (hm : CRL m) (hn : l ≠ []) (h : (preL l).length + (preL m).length ≤ 900) : orT (orT l :: m) = orT (l ++ m) := by
  have c := or_CS hl hn (by omega)
  rw [or_eq ((CRL_cons _ _).2 ⟨c.1, hm⟩) (by simp) (by rw [preL, List.length_append]; omega), or_eq ((CRL_append _ _).2 ⟨hl, hm⟩) (by simp [hn]) (by rw [preL_append, List.length_append]; omega), or_eq hl hn (by omega), flatJ_append,
    show endJ 4 (flatJ 4 l) :: m = [endJ 4 (flatJ 4 l)] ++ m from rfl, flatJ_append, flat4_end (flat4_good hl) (flat4_ne hl hn)]
theorem or_r {l m : List Tr} (hl : CRL l) (hm : CRL m) (hn : m ≠ []) (h : (preL l).length + (preL m).length ≤ 900) : orT (l ++ [orT m]) = orT (l ++ m) := by
  have c := or_CS hm hn (by omega)
  rw [or_eq ((CRL_append _ _).2 ⟨hl, (CRL_cons _ _).2 ⟨c.1, CRL_nil⟩⟩) (by simp) (by rw [preL_append, List.length_append]; simp only [preL, List.append_nil]; omega), or_eq ((CRL_append _ _).2 ⟨hl, hm⟩) (by simp [hn]) (by rw [preL_append, List.length_append]; omega), or_eq hm hn (by omega), flatJ_append,
    flatJ_append, flat4_end (flat4_good hm) (flat4_ne hm hn)]
theorem CR_empty : CR emptyT := (CR_iff _).2 ⟨right_empty, CRL_nil⟩
theorem seq_eae {t : Tr} (h : MT t) : seqT [emptyT, t, emptyT] = t := by
  have hl := h.len
  rw [seq_eq (by rw [CRL_cons, CRL_cons, CRL_cons]; exact ⟨CR_empty, h.cr, CR_empty, CRL_nil⟩) (by simp [preL, emptyT, pre]; omega)]
  have e : flatJ 3 [emptyT, t, emptyT] = flatJ 3 [t] := by
    rw [show [emptyT, t, emptyT] = [emptyT] ++ ([t] ++ [emptyT]) from rfl, flatJ_append, flatJ_append, show flatJ 3 [emptyT] = [] from rfl, List.append_nil, List.nil_append]
  rw [e, end3_flat h.cr]
theorem or_na {t : Tr} (h : MT t) : orT [noneT, t] = t := by
  have hl := h.len
  have hk := h.k0
  have ha : ([noneT, t].any fun x => !goodT x) = false := by
    have e : goodT noneT = true := by rw [goodT, (sameT_iff noneT noneT).2 rfl]; rfl
    simp [e, h.good]
  have hc := clean_of h.cr (by omega)
  rw [orT, ha, if_neg (by decide)]
  have e : flatT 4 0 [noneT, t] = flatJ 4 [t] := by
    rw [← flatT4 (l := [t]) (by simp; exact hk)]
    rfl
  rw [e]
  have hend := end4_flat h.cr
  have hg := flat4_ne (l := [t]) ((CRL_cons _ _).2 ⟨h.cr, CRL_nil⟩) (by simp)
  revert hend hg
  generalize flatJ 4 [t] = m
  intro hend hg
  match m, hend, hg with
  | [], _, hg => exact absurd rfl hg
  | [x], hend, _ =>
    rw [endJ_one] at hend; subst hend
    exact checked_of hc
  | x :: y :: m, hend, _ =>
    rw [endJ_two] at hend
    have e1 : (((x :: y :: m).length : Int) == 0) = false := by simp; omega
    have e2 : (((x :: y :: m).length : Int) == 1) = false := by simp; omega
    rw [joinedT, e1, e2, hend]
    exact checked_of hc
theorem seq_none (a b : Tr) : seqT [a, noneT, b] = noneT := by
  have ha : ([a, noneT, b].any fun x => (x.k : Int) == 0 || !cleanT x) = true := by simp [noneT, Tr.k]
  rw [seqT, ha, if_pos rfl]
structure JT (a b c s o : Tr) : Prop where
  ma : MT a
  mb : MT b
  mc : MT c
  es : seqT [a, b, c] = s
  eo : orT [a, b, c] = o
theorem JT.crl {a b c s o : Tr} (h : JT a b c s o) : CRL [a, b, c] := by rw [CRL_cons, CRL_cons, CRL_cons]; exact ⟨h.ma.cr, h.mb.cr, h.mc.cr, CRL_nil⟩
theorem pre3 (a b c : Tr) : (preL [a, b, c]).length = (pre a).length + (pre b).length + (pre c).length := by simp [preL]; omega
theorem pre2 (a b : Tr) : (preL [a, b]).length = (pre a).length + (pre b).length := by simp [preL]
theorem CRL2 {a b : Tr} (ha : CR a) (hb : CR b) : CRL [a, b] := by rw [CRL_cons, CRL_cons]; exact ⟨ha, hb, CRL_nil⟩
theorem JT.small {a b c s o : Tr} (h : JT a b c s o) : (preL [a, b, c]).length ≤ 150 := by rw [pre3]; have := h.ma.len; have := h.mb.len; have := h.mc.len; omega
theorem JT.sCS {a b c s o : Tr} (h : JT a b c s o) : CR s ∧ (pre s).length ≤ (pre a).length + (pre b).length + (pre c).length + 1 := by
  have hs := h.small
  have := seq_CS h.crl (by omega)
  rw [h.es, pre3] at this; exact this
theorem JT.oCS {a b c s o : Tr} (h : JT a b c s o) : CR o ∧ (pre o).length ≤ (pre a).length + (pre b).length + (pre c).length + 1 ∧ (pre a).length + (pre b).length + (pre c).length ≤ (pre o).length + 2 := by
  have hs := h.small
  have h1 := or_CS h.crl (by simp) (by omega)
  rw [h.eo, pre3] at h1
  refine ⟨h1.1, h1.2, ?_⟩
  have h2 := flat4_len [a, b, c]
  have h3 := flat4_many [a, b, c] h.crl
  simp only [List.length_cons, List.length_nil] at h2 h3
  have h4 := end4_len (m := flatJ 4 [a, b, c]) (by omega)
  rw [← or_eq h.crl (by simp) (by omega), h.eo] at h4
  rw [pre3] at h2; omega
theorem JT.pos {a b c s o : Tr} (h : JT a b c s o) : posT s = posT a + posT b + posT c ∧ posT o = posT a + posT b + posT c := by
  have hs := h.small
  have ha := h.ma.pos
  have hb := h.mb.pos
  have hc := h.mc.pos
  have e : posL [a, b, c] = posT a + posT b + posT c := by simp only [posL]; omega
  have f3 := flatJ_posE 3 (.inl rfl) _ h.crl (by omega)
  have f4 := flatJ_posE 4 (.inr rfl) _ h.crl (by omega)
  have g3 := endJ_posE 3 (.inl rfl) (flatJ 3 [a, b, c]) (by omega)
  have g4 := endJ_posE 4 (.inr rfl) (flatJ 4 [a, b, c]) (by omega)
  rw [← seq_eq h.crl (by omega), h.es] at g3
  rw [← or_eq h.crl (by simp) (by omega), h.eo] at g4
  omega
theorem JT.gr {a b c s o : Tr} (h : JT a b c s o) : grT s = grT a + grT b + grT c ∧ grT o = grT a + grT b + grT c := by
  have hs := h.small
  have e : grL [a, b, c] = grT a + grT b + grT c := by simp only [grL_cons, grL_nil]; omega
  have f3 := flatJ_grE 3 (.inl rfl) _ h.crl
  have f4 := flatJ_grE 4 (.inr rfl) _ h.crl
  have g3 := endJ_grE 3 (.inl rfl) (flatJ 3 [a, b, c])
  have g4 := endJ_grE 4 (.inr rfl) (flatJ 4 [a, b, c])
  rw [← seq_eq h.crl (by omega), h.es] at g3
  rw [← or_eq h.crl (by simp) (by omega), h.eo] at g4
  omega
theorem light_of {t : Tr} (h : (pre t).length ≤ 10000) : lightT t = true := by simpa [lightT] using h
theorem groups_of {t : Tr} (h : lightT t = true) : groupsT t = grT t := by rw [groupsT, if_pos h]; rfl
theorem check_of {t : Tr} (h : MT t) : checkE t = 0 := by
  have h1 := h.clean
  have h2 := h.len
  have h3 := h.pos
  have h4 := h.gr
  rw [checkE, h1, size_of h.light, posn_of h.light, groups_of h.light]
  have e1 : decide ((((pre t).length : Nat) : Int) > 120) = false := by simp; omega
  have e2 : decide (posT t > 400) = false := by simp; omega
  have e3 : decide (((grT t : Nat) : Int) > 9) = false := by simp; omega
  rw [e1, e2, e3]; rfl

theorem ent3 : Ent Try.prog 3 := enters_of Try.func3 (by kernel_rfl) rfl
set_option maxRecDepth 100000 in
set_option maxHeartbeats 8000000 in
theorem rxtog_walk (j k l : List Sm) (hj : j.length < 2 ^ 63) (hk : k.length < 2 ^ 63) (hl : l.length < 2 ^ 63) (ka : Nat) (sa : BS) (mna mxa : Int) (tsa : List Tr) (kb : Nat) (sb : BS) (mnb mxb : Int) (tsb : List Tr) (kc : Nat) (sc : BS) (mnc mxc : Int) (tsc : List Tr) (ks : Nat) (ss : BS) (mns mxs : Int) (tss : List Tr) (ko : Nat) (so : BS) (mno mxo : Int) (tso : List Tr) (k1 : Nat) (s1 : BS) (mn1 mx1 : Int) (ts1 : List Tr) (k2 : Nat) (s2 : BS) (mn2 mx2 : Int) (ts2 : List Tr) (k3 : Nat) (s3 : BS) (mn3 mx3 : Int) (ts3 : List Tr) (k4 : Nat) (s4 : BS) (mn4 mx4 : Int) (ts4 : List Tr) (hA : madeT j = (Tr.mk ka sa mna mxa tsa)) (hB : madeT k = (Tr.mk kb sb mnb mxb tsb)) (hC : madeT l = (Tr.mk kc sc mnc mxc tsc)) (h : JT (Tr.mk ka sa mna mxa tsa) (Tr.mk kb sb mnb mxb tsb) (Tr.mk kc sc mnc mxc tsc) (Tr.mk ks ss mns mxs tss) (Tr.mk ko so mno mxo tso)) (h1 : seqT [(Tr.mk ka sa mna mxa tsa), (Tr.mk kb sb mnb mxb tsb)] = (Tr.mk k1 s1 mn1 mx1 ts1)) (h2 : seqT [(Tr.mk kb sb mnb mxb tsb), (Tr.mk kc sc mnc mxc tsc)] = (Tr.mk k2 s2 mn2 mx2 ts2)) (h3 : orT [(Tr.mk ka sa mna mxa tsa), (Tr.mk kb sb mnb mxb tsb)] = (Tr.mk k3 s3 mn3 mx3 ts3)) (h4 : orT [(Tr.mk kb sb mnb mxb tsb), (Tr.mk kc sc mnc mxc tsc)] = (Tr.mk k4 s4 mn4 mx4 ts4)) : Pure (ITP Try.prog) Try.prog 3 [.list j.length (smcL j) .none, .list k.length (smcL k) .none, .list l.length (smcL l) .none] (.raw (.bool true)) := by
  have ha := h.ma.len
  have hb := h.mb.len
  have hc := h.mc.len
  have hs3 := h.small
  have hS := h.sCS
  have hO := h.oCS
  have hpos := h.pos
  have hgr := h.gr
  have pa := h.ma.pos
  have na := posT_nonneg (Tr.mk ka sa mna mxa tsa)
  have ga := h.ma.gr
  have pb := h.mb.pos
  have nb := posT_nonneg (Tr.mk kb sb mnb mxb tsb)
  have gb := h.mb.gr
  have pc := h.mc.pos
  have nc := posT_nonneg (Tr.mk kc sc mnc mxc tsc)
  have gc := h.mc.gr
  have hMj := made_pure j hj
  rw [hA] at hMj
  have hMk := made_pure k hk
  rw [hB] at hMk
  have hMl := made_pure l hl
  rw [hC] at hMl
  have cab := CRL2 h.ma.cr h.mb.cr
  have cbc := CRL2 h.mb.cr h.mc.cr
  have e12 := seq_CS cab (by rw [pre2]; omega)
  rw [h1, pre2] at e12
  have e22 := seq_CS cbc (by rw [pre2]; omega)
  rw [h2, pre2] at e22
  have e32 := or_CS cab (by simp) (by rw [pre2]; omega)
  rw [h3, pre2] at e32
  have e42 := or_CS cbc (by simp) (by rw [pre2]; omega)
  rw [h4, pre2] at e42
  have a63 : seqT [(Tr.mk k1 s1 mn1 mx1 ts1), (Tr.mk kc sc mnc mxc tsc)] = (Tr.mk ks ss mns mxs tss) := by rw [← h1]; exact (seq_l cab ((CRL_cons _ _).2 ⟨h.mc.cr, CRL_nil⟩) (by rw [pre2]; simp only [preL, List.append_nil]; omega)).trans h.es
  have a74 : seqT [(Tr.mk ka sa mna mxa tsa), (Tr.mk k2 s2 mn2 mx2 ts2)] = (Tr.mk ks ss mns mxs tss) := by rw [← h2]; exact (seq_r (l := [(Tr.mk ka sa mna mxa tsa)]) ((CRL_cons _ _).2 ⟨h.ma.cr, CRL_nil⟩) cbc (by rw [pre2]; simp only [preL, List.append_nil]; omega)).trans h.es
  have a86 : orT [(Tr.mk k3 s3 mn3 mx3 ts3), (Tr.mk kc sc mnc mxc tsc)] = (Tr.mk ko so mno mxo tso) := by rw [← h3]; exact (or_l cab ((CRL_cons _ _).2 ⟨h.mc.cr, CRL_nil⟩) (by simp) (by rw [pre2]; simp only [preL, List.append_nil]; omega)).trans h.eo
  have a98 : orT [(Tr.mk ka sa mna mxa tsa), (Tr.mk k4 s4 mn4 mx4 ts4)] = (Tr.mk ko so mno mxo tso) := by rw [← h4]; exact (or_r (l := [(Tr.mk ka sa mna mxa tsa)]) ((CRL_cons _ _).2 ⟨h.ma.cr, CRL_nil⟩) cbc (by simp) (by rw [pre2]; simp only [preL, List.append_nil]; omega)).trans h.eo
  have le : (pre emptyT).length = 1 := by simp [emptyT, pre, preL]
  have ln : (pre noneT).length = 1 := by simp [noneT, pre, preL]
  have c31 := seq_pure [(Tr.mk ka sa mna mxa tsa), (Tr.mk kb sb mnb mxb tsb), (Tr.mk kc sc mnc mxc tsc)] (by rw [pre3]; omega) .none
  rw [h.es] at c31
  have c36 := or_pure [(Tr.mk ka sa mna mxa tsa), (Tr.mk kb sb mnb mxb tsb), (Tr.mk kc sc mnc mxc tsc)] (by rw [pre3]; omega) .none
  rw [h.eo] at c36
  have c60 := seq_pure [(Tr.mk ka sa mna mxa tsa), (Tr.mk kb sb mnb mxb tsb)] (by rw [pre2]; omega) .none
  rw [h1] at c60
  have c63 := seq_pure [(Tr.mk k1 s1 mn1 mx1 ts1), (Tr.mk kc sc mnc mxc tsc)] (by rw [pre2]; omega) .none
  rw [a63] at c63
  have c72 := seq_pure [(Tr.mk kb sb mnb mxb tsb), (Tr.mk kc sc mnc mxc tsc)] (by rw [pre2]; omega) .none
  rw [h2] at c72
  have c74 := seq_pure [(Tr.mk ka sa mna mxa tsa), (Tr.mk k2 s2 mn2 mx2 ts2)] (by rw [pre2]; omega) .none
  rw [a74] at c74
  have c83 := or_pure [(Tr.mk ka sa mna mxa tsa), (Tr.mk kb sb mnb mxb tsb)] (by rw [pre2]; omega) .none
  rw [h3] at c83
  have c86 := or_pure [(Tr.mk k3 s3 mn3 mx3 ts3), (Tr.mk kc sc mnc mxc tsc)] (by rw [pre2]; omega) .none
  rw [a86] at c86
  have c96 := or_pure [(Tr.mk kb sb mnb mxb tsb), (Tr.mk kc sc mnc mxc tsc)] (by rw [pre2]; omega) .none
  rw [h4] at c96
  have c98 := or_pure [(Tr.mk ka sa mna mxa tsa), (Tr.mk k4 s4 mn4 mx4 ts4)] (by rw [pre2]; omega) .none
  rw [a98] at c98
  have c107 := seq_pure [emptyT, (Tr.mk ka sa mna mxa tsa), emptyT] (by rw [pre3]; omega) .none
  rw [seq_eae h.ma] at c107
  have c116 := or_pure [noneT, (Tr.mk ka sa mna mxa tsa)] (by rw [pre2]; omega) .none
  rw [or_na h.ma] at c116
  have c126 := seq_pure [(Tr.mk ka sa mna mxa tsa), noneT, (Tr.mk kb sb mnb mxb tsb)] (by rw [pre3]; omega) .none
  rw [seq_none (Tr.mk ka sa mna mxa tsa) (Tr.mk kb sb mnb mxb tsb)] at c126
  have c131 := seq_pure [] (by simp [preL]) .none
  rw [show seqT [] = emptyT from by kernel_rfl] at c131
  have c137 := or_pure [] (by simp [preL]) .none
  rw [show orT [] = noneT from by kernel_rfl] at c137
  have c38 := clean_at (Tr.mk ka sa mna mxa tsa) (by omega)
  rw [clean_of h.ma.cr (by omega)] at c38
  have c42 := clean_at (Tr.mk ks ss mns mxs tss) (by omega)
  rw [clean_of hS.1 (by omega)] at c42
  have c47 := clean_at (Tr.mk ko so mno mxo tso) (by omega)
  rw [clean_of hO.1 (by omega)] at c47
  have c53 := check_at (Tr.mk ka sa mna mxa tsa) (by omega) false false
  rw [check_of h.ma] at c53
  have c64 := sameB_at (Tr.mk ks ss mns mxs tss) (Tr.mk ks ss mns mxs tss) (by omega) (by omega)
  rw [same_refl (light_of (by omega))] at c64
  have c87 := sameB_at (Tr.mk ko so mno mxo tso) (Tr.mk ko so mno mxo tso) (by omega) (by omega)
  rw [same_refl (light_of (by omega))] at c87
  have c109 := sameB_at (Tr.mk ka sa mna mxa tsa) (Tr.mk ka sa mna mxa tsa) (by omega) (by omega)
  rw [same_refl (light_of (by omega))] at c109
  have c133 := sameB_at emptyT emptyT (by omega) (by omega)
  rw [same_refl (light_of (by omega))] at c133
  have c139 := sameB_at noneT noneT (by omega) (by omega)
  rw [same_refl (light_of (by omega))] at c139
  have c217 := sameB_at (Tr.mk k1 s1 mn1 mx1 ts1) (Tr.mk k1 s1 mn1 mx1 ts1) (by omega) (by omega)
  rw [same_refl (light_of (by omega))] at c217
  have c227 := sameB_at (Tr.mk k3 s3 mn3 mx3 ts3) (Tr.mk k3 s3 mn3 mx3 ts3) (by omega) (by omega)
  rw [same_refl (light_of (by omega))] at c227
  have c143 := posn_at (Tr.mk ka sa mna mxa tsa) (by omega)
  rw [posn_of (light_of (by omega))] at c143
  have c145 := posn_at (Tr.mk kb sb mnb mxb tsb) (by omega)
  rw [posn_of (light_of (by omega))] at c145
  have c148 := posn_at (Tr.mk kc sc mnc mxc tsc) (by omega)
  rw [posn_of (light_of (by omega))] at c148
  have c167 := posn_at (Tr.mk ks ss mns mxs tss) (by omega)
  rw [posn_of (light_of (by omega))] at c167
  have c172 := posn_at (Tr.mk ko so mno mxo tso) (by omega)
  rw [posn_of (light_of (by omega))] at c172
  have c151 := size_at (Tr.mk ka sa mna mxa tsa) (by omega)
  rw [size_of (light_of (by omega))] at c151
  have c153 := size_at (Tr.mk kb sb mnb mxb tsb) (by omega)
  rw [size_of (light_of (by omega))] at c153
  have c156 := size_at (Tr.mk kc sc mnc mxc tsc) (by omega)
  rw [size_of (light_of (by omega))] at c156
  have c190 := size_at (Tr.mk ks ss mns mxs tss) (by omega)
  rw [size_of (light_of (by omega))] at c190
  have c197 := size_at (Tr.mk ko so mno mxo tso) (by omega)
  rw [size_of (light_of (by omega))] at c197
  have c204 := size_at (Tr.mk ko so mno mxo tso) (by omega)
  rw [size_of (light_of (by omega))] at c204
  have c159 := groups_at (Tr.mk ka sa mna mxa tsa) (by omega)
  rw [groups_of (light_of (by omega))] at c159
  have c161 := groups_at (Tr.mk kb sb mnb mxb tsb) (by omega)
  rw [groups_of (light_of (by omega))] at c161
  have c164 := groups_at (Tr.mk kc sc mnc mxc tsc) (by omega)
  rw [groups_of (light_of (by omega))] at c164
  have c178 := groups_at (Tr.mk ks ss mns mxs tss) (by omega)
  rw [groups_of (light_of (by omega))] at c178
  have c184 := groups_at (Tr.mk ko so mno mxo tso) (by omega)
  rw [groups_of (light_of (by omega))] at c184
  have c216 := joins_mk 3 ka sa mna mxa tsa kb sb mnb mxb tsb (by rw [pre2]; omega)
  rw [show joinsT 3 (Tr.mk ka sa mna mxa tsa) (Tr.mk kb sb mnb mxb tsb) = (Tr.mk k1 s1 mn1 mx1 ts1) from by rw [← h1, seq_eq cab (by rw [pre2]; omega)]; rfl] at c216
  have c226 := joins_mk 4 ka sa mna mxa tsa kb sb mnb mxb tsb (by rw [pre2]; omega)
  rw [show joinsT 4 (Tr.mk ka sa mna mxa tsa) (Tr.mk kb sb mnb mxb tsb) = (Tr.mk k3 s3 mn3 mx3 ts3) from by rw [← h3, or_eq cab (by simp) (by rw [pre2]; omega)]; rfl] at c226
  obtain ⟨d, hd⟩ : ∃ d, Try.f3.body = some d := ⟨_, rfl⟩
  refine pure_of mix Try.func3 hd ent3 ?_
  cases hd

  refine w_start (by dsimp only [abeginS, Try.f3, List.length_cons, List.length_nil, Nat.zero_add, Nat.reduceAdd, Nat.reduceSub, List.replicate, List.cons_append, List.nil_append]) (by dsimp only [St.empty]) ?_
  refine w_seq (w_region ?_)
  refine w_op (a := .raw (.bool false)) rfl rfl rfl rfl (by dsimp only [aput, List.set]) ?_
  refine w_seq ?_
  refine w_seq (w_region ?_)
  refine w_callk awake_pure (by simp [cloL]) rfl rfl (by dsimp only [aput, List.set]) ?_
  refine w_op (a := .raw (.bool false)) rfl rfl rfl rfl (by dsimp only [aput, List.set]) ?_
  refine w_false rfl ?_
  refine w_seq (w_region ?_)
  refine w_op rfl rfl rfl rfl (by dsimp only [aput, List.set, aval, List.getElem?_cons_zero, List.getElem?_cons_succ, Option.getD]) ?_
  refine w_callk hMj (by simp [cloL, clo, clo_enc, clo_cells, clo_smcL]) rfl rfl (by dsimp only [aput, List.set]) ?_
  refine w_op rfl rfl rfl rfl (by dsimp only [aput, List.set, aval, List.getElem?_cons_zero, List.getElem?_cons_succ, Option.getD]) ?_
  refine w_callk hMk (by simp [cloL, clo, clo_enc, clo_cells, clo_smcL]) rfl rfl (by dsimp only [aput, List.set]) ?_
  refine w_op rfl rfl rfl rfl (by dsimp only [aput, List.set, aval, List.getElem?_cons_zero, List.getElem?_cons_succ, Option.getD]) ?_
  refine w_callk hMl (by simp [cloL, clo, clo_enc, clo_cells, clo_smcL]) rfl rfl (by dsimp only [aput, List.set]) ?_
  refine w_opm (a := .ptr 0 0) rfl rfl rfl rfl (by dsimp only [aput, List.set]) (by dsimp only [cellsOf_enc, List.append_nil, List.nil_append, List.cons_append, List.set, List.take, List.drop, List.length, List.length_cons, List.length_nil, cellsOf, aval, List.getElem?_cons_zero, List.getElem?_cons_succ, Option.getD]) ?_
  refine w_opm (a := .ptr 1 0) rfl rfl rfl rfl (by dsimp only [aput, List.set]) (by dsimp only [cellsOf_enc, List.append_nil, List.nil_append, List.cons_append, List.set, List.take, List.drop, List.length, List.length_cons, List.length_nil, cellsOf, aval, List.getElem?_cons_zero, List.getElem?_cons_succ, Option.getD]) ?_
  refine w_opm (a := .ptr 2 0) rfl rfl rfl rfl (by dsimp only [aput, List.set]) (by dsimp only [cellsOf_enc, List.append_nil, List.nil_append, List.cons_append, List.set, List.take, List.drop, List.length, List.length_cons, List.length_nil, cellsOf, aval, List.getElem?_cons_zero, List.getElem?_cons_succ, Option.getD]) ?_
  refine w_opm rfl rfl rfl (op_storeW (n := 8) rfl rfl rfl rfl rfl rfl rfl rfl (by decide)) (by dsimp only [aput, List.set]) (by dsimp only [cellsOf_enc, List.append_nil, List.nil_append, List.cons_append, List.set, List.take, List.drop, List.length, List.length_cons, List.length_nil, cellsOf, aval, List.getElem?_cons_zero, List.getElem?_cons_succ, Option.getD]) ?_
  refine w_opm rfl rfl rfl (op_storeW (n := 8) rfl rfl rfl rfl rfl rfl rfl rfl (by decide)) (by dsimp only [aput, List.set]) (by dsimp only [cellsOf_enc, List.append_nil, List.nil_append, List.cons_append, List.set, List.take, List.drop, List.length, List.length_cons, List.length_nil, cellsOf, aval, List.getElem?_cons_zero, List.getElem?_cons_succ, Option.getD]) ?_
  refine w_opm rfl rfl rfl (op_storeW (n := 8) rfl rfl rfl rfl rfl rfl rfl rfl (by decide)) (by dsimp only [aput, List.set]) (by dsimp only [cellsOf_enc, List.append_nil, List.nil_append, List.cons_append, List.set, List.take, List.drop, List.length, List.length_cons, List.length_nil, cellsOf, aval, List.getElem?_cons_zero, List.getElem?_cons_succ, Option.getD]) ?_
  refine w_seq (w_region ?_)
  refine w_op (a := .agg [.raw (.int .u8 1), .raw (.int .u64 0), .raw (.int .u64 0), .raw (.int .u64 0), .raw (.int .u64 0), .raw (.int .i64 0), .raw (.int .i64 0), .list 0 [] .full]) rfl rfl rfl rfl (by dsimp only [aput, List.set]) ?_
  refine w_op (a := .agg [.raw (.int .u8 0), .raw (.int .u64 0), .raw (.int .u64 0), .raw (.int .u64 0), .raw (.int .u64 0), .raw (.int .i64 0), .raw (.int .i64 0), .list 0 [] .full]) rfl rfl rfl rfl (by dsimp only [aput, List.set]) ?_
  refine w_opm (a := .ptr 3 0) rfl rfl rfl rfl (by dsimp only [aput, List.set]) (by dsimp only [cellsOf_enc, List.append_nil, List.nil_append, List.cons_append, List.set, List.take, List.drop, List.length, List.length_cons, List.length_nil, cellsOf, aval, List.getElem?_cons_zero, List.getElem?_cons_succ, Option.getD]) ?_
  refine w_opm (a := .ptr 4 0) rfl rfl rfl rfl (by dsimp only [aput, List.set]) (by dsimp only [cellsOf_enc, List.append_nil, List.nil_append, List.cons_append, List.set, List.take, List.drop, List.length, List.length_cons, List.length_nil, cellsOf, aval, List.getElem?_cons_zero, List.getElem?_cons_succ, Option.getD]) ?_
  refine w_opm rfl rfl rfl (op_storeW (n := 8) rfl rfl rfl rfl rfl rfl rfl rfl (by decide)) (by dsimp only [aput, List.set]) (by dsimp only [cellsOf_enc, List.append_nil, List.nil_append, List.cons_append, List.set, List.take, List.drop, List.length, List.length_cons, List.length_nil, cellsOf, aval, List.getElem?_cons_zero, List.getElem?_cons_succ, Option.getD]) ?_
  refine w_opm rfl rfl rfl (op_storeW (n := 8) rfl rfl rfl rfl rfl rfl rfl rfl (by decide)) (by dsimp only [aput, List.set]) (by dsimp only [cellsOf_enc, List.append_nil, List.nil_append, List.cons_append, List.set, List.take, List.drop, List.length, List.length_cons, List.length_nil, cellsOf, aval, List.getElem?_cons_zero, List.getElem?_cons_succ, Option.getD]) ?_
  refine w_seq ?_
  refine w_drawB (id := 5) 12 (by kernel_rfl) (by kernel_rfl) ?_
  refine hB_op (a := enc (Tr.mk ka sa mna mxa tsa)) rfl rfl rfl rfl rfl (by dsimp only [aput, List.set]) ?_
  refine hB_op (a := enc (Tr.mk kb sb mnb mxb tsb)) rfl rfl rfl rfl rfl (by dsimp only [aput, List.set]) ?_
  refine hB_op (a := enc (Tr.mk kc sc mnc mxc tsc)) rfl rfl rfl rfl rfl (by dsimp only [aput, List.set]) ?_
  refine hB_op (a := .list 3 (cellsL [(Tr.mk ka sa mna mxa tsa), (Tr.mk kb sb mnb mxb tsb), (Tr.mk kc sc mnc mxc tsc)]) .full) rfl rfl rfl rfl rfl (by dsimp only [aput, List.set]) ?_
  refine hB_call (args := [.list 3 (cellsL [(Tr.mk ka sa mna mxa tsa), (Tr.mk kb sb mnb mxb tsb), (Tr.mk kc sc mnc mxc tsc)]) .full]) c31 rfl rfl rfl rfl (by simp [stripL, strip, strip_cellsL]) (by simp [okTrimL, okTrim, okTrim_cellsL]) (by dsimp only [aput, List.set]) ?_
  refine hB_op (a := enc (Tr.mk ka sa mna mxa tsa)) rfl rfl rfl rfl rfl (by dsimp only [aput, List.set]) ?_
  refine hB_op (a := enc (Tr.mk kb sb mnb mxb tsb)) rfl rfl rfl rfl rfl (by dsimp only [aput, List.set]) ?_
  refine hB_op (a := enc (Tr.mk kc sc mnc mxc tsc)) rfl rfl rfl rfl rfl (by dsimp only [aput, List.set]) ?_
  refine hB_op (a := .list 3 (cellsL [(Tr.mk ka sa mna mxa tsa), (Tr.mk kb sb mnb mxb tsb), (Tr.mk kc sc mnc mxc tsc)]) .full) rfl rfl rfl rfl rfl (by dsimp only [aput, List.set]) ?_
  refine hB_call (args := [.list 3 (cellsL [(Tr.mk ka sa mna mxa tsa), (Tr.mk kb sb mnb mxb tsb), (Tr.mk kc sc mnc mxc tsc)]) .full]) c36 rfl rfl rfl rfl (by simp [stripL, strip, strip_cellsL]) (by simp [okTrimL, okTrim, okTrim_cellsL]) (by dsimp only [aput, List.set]) ?_
  refine hB_new _ rfl rfl rfl rfl rfl rfl (by dsimp only [List.set]) ?_
  refine hB_new _ rfl rfl rfl rfl rfl rfl (by dsimp only [List.set]) ?_
  refine hB_done (n := 5) rfl (show _ = ⟨[(29, cells (Tr.mk ka sa mna mxa tsa)), (29, cells (Tr.mk kb sb mnb mxb tsb)), (29, cells (Tr.mk kc sc mnc mxc tsc)), (29, [.raw (.int .u8 1), .raw (.int .u64 0), .raw (.int .u64 0), .raw (.int .u64 0), .raw (.int .u64 0), .raw (.int .i64 0), .raw (.int .i64 0), .list 0 [] .full]), (29, [.raw (.int .u8 0), .raw (.int .u64 0), .raw (.int .u64 0), .raw (.int .u64 0), .raw (.int .u64 0), .raw (.int .i64 0), .raw (.int .i64 0), .list 0 [] .full]), (29, [.raw (.int .u8 0), .raw (.int .u64 0), .raw (.int .u64 0), .raw (.int .u64 0), .raw (.int .u64 0), .raw (.int .i64 0), .raw (.int .i64 0), .list 0 [] .full]), (29, [.raw (.int .u8 0), .raw (.int .u64 0), .raw (.int .u64 0), .raw (.int .u64 0), .raw (.int .u64 0), .raw (.int .i64 0), .raw (.int .i64 0), .list 0 [] .full])], [], [], 0, false⟩ from rfl) (by dsimp only [List.nil_append, List.cons_append, pendS, List.set, Nat.reduceAdd]) ?_
  refine w_opm rfl rfl rfl (op_storeW (n := 8) rfl rfl rfl rfl rfl rfl rfl rfl (by decide)) (by dsimp only [aput, List.set]) (by dsimp only [cellsOf_enc, List.append_nil, List.nil_append, List.cons_append, List.set, List.take, List.drop, List.length, List.length_cons, List.length_nil, cellsOf, aval, List.getElem?_cons_zero, List.getElem?_cons_succ, Option.getD]) ?_
  refine w_opm rfl rfl rfl (op_storeW (n := 8) rfl rfl rfl rfl rfl rfl rfl rfl (by decide)) (by dsimp only [aput, List.set]) (by dsimp only [cellsOf_enc, List.append_nil, List.nil_append, List.cons_append, List.set, List.take, List.drop, List.length, List.length_cons, List.length_nil, cellsOf, aval, List.getElem?_cons_zero, List.getElem?_cons_succ, Option.getD]) ?_
  refine w_seq ?_
  refine w_seq (w_region ?_)
  refine w_op (a := enc (Tr.mk ka sa mna mxa tsa)) rfl rfl rfl rfl (by dsimp only [aput, List.set]) ?_
  refine w_callk c38 (by simp [cloL, clo_enc]) rfl rfl (by dsimp only [aput, List.set]) ?_
  refine w_op (a := .raw (.bool false)) rfl rfl rfl rfl (by dsimp only [aput, List.set]) ?_
  refine w_op (a := .raw (.bool false)) rfl rfl rfl rfl (by dsimp only [aput, List.set]) ?_
  refine w_met rfl rfl ?_
  refine w_op (a := enc (Tr.mk ks ss mns mxs tss)) rfl rfl rfl rfl (by dsimp only [aput, List.set]) ?_
  refine w_met rfl rfl ?_
  refine w_callk c42 (by simp [cloL, clo_enc]) rfl rfl (by dsimp only [aput, List.set]) ?_
  refine w_met rfl rfl ?_
  refine w_op (a := .raw (.bool false)) rfl rfl rfl rfl (by dsimp only [aput, List.set]) ?_
  refine w_op (a := .raw (.bool false)) rfl rfl rfl rfl (by dsimp only [aput, List.set]) ?_
  refine w_op (a := .raw (.bool false)) rfl rfl rfl rfl (by dsimp only [aput, List.set]) ?_
  refine w_met rfl rfl ?_
  refine w_op (a := enc (Tr.mk ko so mno mxo tso)) rfl rfl rfl rfl (by dsimp only [aput, List.set]) ?_
  refine w_met rfl rfl ?_
  refine w_callk c47 (by simp [cloL, clo_enc]) rfl rfl (by dsimp only [aput, List.set]) ?_
  refine w_met rfl rfl ?_
  refine w_op (a := .raw (.bool false)) rfl rfl rfl rfl (by dsimp only [aput, List.set]) ?_
  refine w_op (a := .raw (.bool false)) rfl rfl rfl rfl (by dsimp only [aput, List.set]) ?_
  refine w_op (a := .raw (.bool false)) rfl rfl rfl rfl (by dsimp only [aput, List.set]) ?_
  refine w_met rfl rfl ?_
  refine w_op (a := enc (Tr.mk ka sa mna mxa tsa)) rfl rfl rfl rfl (by dsimp only [aput, List.set]) ?_
  refine w_met rfl rfl ?_
  refine w_op (a := .agg (.raw (.bool false) :: .raw (.bool false) :: cells (Tr.mk ka sa mna mxa tsa))) rfl rfl rfl (op_q (by kernel_rfl)) (by dsimp only [aput, List.set]) ?_
  refine w_met rfl rfl ?_
  refine w_callk c53 (by simp [cloL, clo, clo_enc, clo_cells, clo_smcL]) rfl rfl (by dsimp only [aput, List.set]) ?_
  refine w_met rfl rfl ?_
  refine w_op (a := .raw (.bool false)) rfl rfl rfl (op_q (q_bool rfl rfl)) (by dsimp only [aput, List.set]) ?_
  refine w_op (a := .raw (.bool false)) rfl rfl rfl rfl (by dsimp only [aput, List.set]) ?_
  refine w_false rfl ?_
  refine w_seq ?_
  refine w_seq ?_
  refine w_draw (id := 8) 86 (by kernel_rfl) (by kernel_rfl) ?_
  refine h_op (a := enc (Tr.mk ks ss mns mxs tss)) rfl rfl rfl rfl (by dsimp only [aput, List.set]) ?_
  refine h_op (a := enc (Tr.mk ka sa mna mxa tsa)) rfl rfl rfl rfl (by dsimp only [aput, List.set]) ?_
  refine h_op (a := enc (Tr.mk kb sb mnb mxb tsb)) rfl rfl rfl rfl (by dsimp only [aput, List.set]) ?_
  refine h_op (a := .list 2 (cellsL [(Tr.mk ka sa mna mxa tsa), (Tr.mk kb sb mnb mxb tsb)]) .full) rfl rfl rfl rfl (by dsimp only [aput, List.set]) ?_
  refine h_call (args := [.list 2 (cellsL [(Tr.mk ka sa mna mxa tsa), (Tr.mk kb sb mnb mxb tsb)]) .full]) c60 rfl rfl rfl (by simp [stripL, strip, strip_cellsL]) (by simp [okTrimL, okTrim, okTrim_cellsL]) (by dsimp only [aput, List.set]) ?_
  refine h_op (a := enc (Tr.mk kc sc mnc mxc tsc)) rfl rfl rfl rfl (by dsimp only [aput, List.set]) ?_
  refine h_op (a := .list 2 (cellsL [(Tr.mk k1 s1 mn1 mx1 ts1), (Tr.mk kc sc mnc mxc tsc)]) .full) rfl rfl rfl rfl (by dsimp only [aput, List.set]) ?_
  refine h_call (args := [.list 2 (cellsL [(Tr.mk k1 s1 mn1 mx1 ts1), (Tr.mk kc sc mnc mxc tsc)]) .full]) c63 rfl rfl rfl (by simp [stripL, strip, strip_cellsL]) (by simp [okTrimL, okTrim, okTrim_cellsL]) (by dsimp only [aput, List.set]) ?_
  refine h_callk c64 (by simp [cloL, clo_enc]) rfl rfl rfl (by dsimp only [aput, List.set]) ?_
  refine h_op (a := .raw (.bool false)) rfl rfl rfl rfl (by dsimp only [aput, List.set]) ?_
  refine h_op (a := .raw (.bool false)) rfl rfl rfl rfl (by dsimp only [aput, List.set]) ?_
  refine h_met rfl rfl ?_
  refine h_op (a := enc (Tr.mk ks ss mns mxs tss)) rfl rfl rfl rfl (by dsimp only [aput, List.set]) ?_
  refine h_met rfl rfl ?_
  refine h_op (a := enc (Tr.mk ka sa mna mxa tsa)) rfl rfl rfl rfl (by dsimp only [aput, List.set]) ?_
  refine h_met rfl rfl ?_
  refine h_op (a := enc (Tr.mk kb sb mnb mxb tsb)) rfl rfl rfl rfl (by dsimp only [aput, List.set]) ?_
  refine h_met rfl rfl ?_
  refine h_op (a := enc (Tr.mk kc sc mnc mxc tsc)) rfl rfl rfl rfl (by dsimp only [aput, List.set]) ?_
  refine h_met rfl rfl ?_
  refine h_op (a := .list 2 (cellsL [(Tr.mk kb sb mnb mxb tsb), (Tr.mk kc sc mnc mxc tsc)]) .full) rfl rfl rfl rfl (by dsimp only [aput, List.set]) ?_
  refine h_met rfl rfl ?_
  refine h_call (args := [.list 2 (cellsL [(Tr.mk kb sb mnb mxb tsb), (Tr.mk kc sc mnc mxc tsc)]) .full]) c72 rfl rfl rfl (by simp [stripL, strip, strip_cellsL]) (by simp [okTrimL, okTrim, okTrim_cellsL]) (by dsimp only [aput, List.set]) ?_
  refine h_met rfl rfl ?_
  refine h_op (a := .list 2 (cellsL [(Tr.mk ka sa mna mxa tsa), (Tr.mk k2 s2 mn2 mx2 ts2)]) .full) rfl rfl rfl rfl (by dsimp only [aput, List.set]) ?_
  refine h_met rfl rfl ?_
  refine h_call (args := [.list 2 (cellsL [(Tr.mk ka sa mna mxa tsa), (Tr.mk k2 s2 mn2 mx2 ts2)]) .full]) c74 rfl rfl rfl (by simp [stripL, strip, strip_cellsL]) (by simp [okTrimL, okTrim, okTrim_cellsL]) (by dsimp only [aput, List.set]) ?_
  refine h_met rfl rfl ?_
  refine h_callk c64 (by simp [cloL, clo_enc]) rfl rfl rfl (by dsimp only [aput, List.set]) ?_
  refine h_met rfl rfl ?_
  refine h_op (a := .raw (.bool false)) rfl rfl rfl rfl (by dsimp only [aput, List.set]) ?_
  refine h_op (a := .raw (.bool false)) rfl rfl rfl rfl (by dsimp only [aput, List.set]) ?_
  refine h_op (a := .raw (.bool false)) rfl rfl rfl rfl (by dsimp only [aput, List.set]) ?_
  refine h_met rfl rfl ?_
  refine h_op (a := enc (Tr.mk ko so mno mxo tso)) rfl rfl rfl rfl (by dsimp only [aput, List.set]) ?_
  refine h_met rfl rfl ?_
  refine h_op (a := enc (Tr.mk ka sa mna mxa tsa)) rfl rfl rfl rfl (by dsimp only [aput, List.set]) ?_
  refine h_met rfl rfl ?_
  refine h_op (a := enc (Tr.mk kb sb mnb mxb tsb)) rfl rfl rfl rfl (by dsimp only [aput, List.set]) ?_
  refine h_met rfl rfl ?_
  refine h_op (a := .list 2 (cellsL [(Tr.mk ka sa mna mxa tsa), (Tr.mk kb sb mnb mxb tsb)]) .full) rfl rfl rfl rfl (by dsimp only [aput, List.set]) ?_
  refine h_met rfl rfl ?_
  refine h_call (args := [.list 2 (cellsL [(Tr.mk ka sa mna mxa tsa), (Tr.mk kb sb mnb mxb tsb)]) .full]) c83 rfl rfl rfl (by simp [stripL, strip, strip_cellsL]) (by simp [okTrimL, okTrim, okTrim_cellsL]) (by dsimp only [aput, List.set]) ?_
  refine h_met rfl rfl ?_
  refine h_op (a := enc (Tr.mk kc sc mnc mxc tsc)) rfl rfl rfl rfl (by dsimp only [aput, List.set]) ?_
  refine h_met rfl rfl ?_
  refine h_op (a := .list 2 (cellsL [(Tr.mk k3 s3 mn3 mx3 ts3), (Tr.mk kc sc mnc mxc tsc)]) .full) rfl rfl rfl rfl (by dsimp only [aput, List.set]) ?_
  refine h_met rfl rfl ?_
  refine h_call (args := [.list 2 (cellsL [(Tr.mk k3 s3 mn3 mx3 ts3), (Tr.mk kc sc mnc mxc tsc)]) .full]) c86 rfl rfl rfl (by simp [stripL, strip, strip_cellsL]) (by simp [okTrimL, okTrim, okTrim_cellsL]) (by dsimp only [aput, List.set]) ?_
  refine h_met rfl rfl ?_
  refine h_callk c87 (by simp [cloL, clo_enc]) rfl rfl rfl (by dsimp only [aput, List.set]) ?_
  refine h_met rfl rfl ?_
  refine h_op (a := .raw (.bool false)) rfl rfl rfl rfl (by dsimp only [aput, List.set]) ?_
  refine h_op (a := .raw (.bool false)) rfl rfl rfl rfl (by dsimp only [aput, List.set]) ?_
  refine h_op (a := .raw (.bool false)) rfl rfl rfl rfl (by dsimp only [aput, List.set]) ?_
  refine h_met rfl rfl ?_
  refine h_op (a := enc (Tr.mk ko so mno mxo tso)) rfl rfl rfl rfl (by dsimp only [aput, List.set]) ?_
  refine h_met rfl rfl ?_
  refine h_op (a := enc (Tr.mk ka sa mna mxa tsa)) rfl rfl rfl rfl (by dsimp only [aput, List.set]) ?_
  refine h_met rfl rfl ?_
  refine h_op (a := enc (Tr.mk kb sb mnb mxb tsb)) rfl rfl rfl rfl (by dsimp only [aput, List.set]) ?_
  refine h_met rfl rfl ?_
  refine h_op (a := enc (Tr.mk kc sc mnc mxc tsc)) rfl rfl rfl rfl (by dsimp only [aput, List.set]) ?_
  refine h_met rfl rfl ?_
  refine h_op (a := .list 2 (cellsL [(Tr.mk kb sb mnb mxb tsb), (Tr.mk kc sc mnc mxc tsc)]) .full) rfl rfl rfl rfl (by dsimp only [aput, List.set]) ?_
  refine h_met rfl rfl ?_
  refine h_call (args := [.list 2 (cellsL [(Tr.mk kb sb mnb mxb tsb), (Tr.mk kc sc mnc mxc tsc)]) .full]) c96 rfl rfl rfl (by simp [stripL, strip, strip_cellsL]) (by simp [okTrimL, okTrim, okTrim_cellsL]) (by dsimp only [aput, List.set]) ?_
  refine h_met rfl rfl ?_
  refine h_op (a := .list 2 (cellsL [(Tr.mk ka sa mna mxa tsa), (Tr.mk k4 s4 mn4 mx4 ts4)]) .full) rfl rfl rfl rfl (by dsimp only [aput, List.set]) ?_
  refine h_met rfl rfl ?_
  refine h_call (args := [.list 2 (cellsL [(Tr.mk ka sa mna mxa tsa), (Tr.mk k4 s4 mn4 mx4 ts4)]) .full]) c98 rfl rfl rfl (by simp [stripL, strip, strip_cellsL]) (by simp [okTrimL, okTrim, okTrim_cellsL]) (by dsimp only [aput, List.set]) ?_
  refine h_met rfl rfl ?_
  refine h_callk c87 (by simp [cloL, clo_enc]) rfl rfl rfl (by dsimp only [aput, List.set]) ?_
  refine h_met rfl rfl ?_
  refine h_op (a := .raw (.bool false)) rfl rfl rfl rfl (by dsimp only [aput, List.set]) ?_
  refine h_op (a := .raw (.bool false)) rfl rfl rfl rfl (by dsimp only [aput, List.set]) ?_
  refine h_op (a := .raw (.bool false)) rfl rfl rfl rfl (by dsimp only [aput, List.set]) ?_
  refine h_met rfl rfl ?_
  refine h_op (a := .agg [.raw (.int .u8 1), .raw (.int .u64 0), .raw (.int .u64 0), .raw (.int .u64 0), .raw (.int .u64 0), .raw (.int .i64 0), .raw (.int .i64 0), .list 0 [] .full]) rfl rfl rfl rfl (by dsimp only [aput, List.set]) ?_
  refine h_met rfl rfl ?_
  refine h_op (a := enc (Tr.mk ka sa mna mxa tsa)) rfl rfl rfl rfl (by dsimp only [aput, List.set]) ?_
  refine h_met rfl rfl ?_
  refine h_op (a := .agg [.raw (.int .u8 1), .raw (.int .u64 0), .raw (.int .u64 0), .raw (.int .u64 0), .raw (.int .u64 0), .raw (.int .i64 0), .raw (.int .i64 0), .list 0 [] .full]) rfl rfl rfl rfl (by dsimp only [aput, List.set]) ?_
  refine h_met rfl rfl ?_
  refine h_op (a := .list 3 ([.raw (.int .u8 1), .raw (.int .u64 0), .raw (.int .u64 0), .raw (.int .u64 0), .raw (.int .u64 0), .raw (.int .i64 0), .raw (.int .i64 0), .list 0 [] .full] ++ (cells (Tr.mk ka sa mna mxa tsa) ++ [.raw (.int .u8 1), .raw (.int .u64 0), .raw (.int .u64 0), .raw (.int .u64 0), .raw (.int .u64 0), .raw (.int .i64 0), .raw (.int .i64 0), .list 0 [] .full])) .full) rfl rfl rfl rfl (by dsimp only [aput, List.set]) ?_
  refine h_met rfl rfl ?_
  refine h_call (args := [.list 3 ([.raw (.int .u8 1), .raw (.int .u64 0), .raw (.int .u64 0), .raw (.int .u64 0), .raw (.int .u64 0), .raw (.int .i64 0), .raw (.int .i64 0), .list 0 [] .full] ++ (cells (Tr.mk ka sa mna mxa tsa) ++ [.raw (.int .u8 1), .raw (.int .u64 0), .raw (.int .u64 0), .raw (.int .u64 0), .raw (.int .u64 0), .raw (.int .i64 0), .raw (.int .i64 0), .list 0 [] .full])) .full]) c107 rfl rfl rfl (by simp [stripL, strip, cellsL, cells, emptyT, noneT, wd_zero, strip_cellsL, enc]) (by simp [okTrimL, okTrim, cells, okTrim_cellsL, enc, okTrim_cells]) (by dsimp only [aput, List.set]) ?_
  refine h_met rfl rfl ?_
  refine h_op (a := enc (Tr.mk ka sa mna mxa tsa)) rfl rfl rfl rfl (by dsimp only [aput, List.set]) ?_
  refine h_met rfl rfl ?_
  refine h_callk c109 (by simp [cloL, clo_enc]) rfl rfl rfl (by dsimp only [aput, List.set]) ?_
  refine h_met rfl rfl ?_
  refine h_op (a := .raw (.bool false)) rfl rfl rfl rfl (by dsimp only [aput, List.set]) ?_
  refine h_op (a := .raw (.bool false)) rfl rfl rfl rfl (by dsimp only [aput, List.set]) ?_
  refine h_op (a := .raw (.bool false)) rfl rfl rfl rfl (by dsimp only [aput, List.set]) ?_
  refine h_met rfl rfl ?_
  refine h_op (a := .agg [.raw (.int .u8 0), .raw (.int .u64 0), .raw (.int .u64 0), .raw (.int .u64 0), .raw (.int .u64 0), .raw (.int .i64 0), .raw (.int .i64 0), .list 0 [] .full]) rfl rfl rfl rfl (by dsimp only [aput, List.set]) ?_
  refine h_met rfl rfl ?_
  refine h_op (a := enc (Tr.mk ka sa mna mxa tsa)) rfl rfl rfl rfl (by dsimp only [aput, List.set]) ?_
  refine h_met rfl rfl ?_
  refine h_op (a := .list 2 ([.raw (.int .u8 0), .raw (.int .u64 0), .raw (.int .u64 0), .raw (.int .u64 0), .raw (.int .u64 0), .raw (.int .i64 0), .raw (.int .i64 0), .list 0 [] .full] ++ cells (Tr.mk ka sa mna mxa tsa)) .full) rfl rfl rfl rfl (by dsimp only [aput, List.set]) ?_
  refine h_met rfl rfl ?_
  refine h_call (args := [.list 2 ([.raw (.int .u8 0), .raw (.int .u64 0), .raw (.int .u64 0), .raw (.int .u64 0), .raw (.int .u64 0), .raw (.int .i64 0), .raw (.int .i64 0), .list 0 [] .full] ++ cells (Tr.mk ka sa mna mxa tsa)) .full]) c116 rfl rfl rfl (by simp [stripL, strip, cellsL, cells, emptyT, noneT, wd_zero, strip_cellsL, enc]) (by simp [okTrimL, okTrim, cells, okTrim_cellsL, enc, okTrim_cells]) (by dsimp only [aput, List.set]) ?_
  refine h_met rfl rfl ?_
  refine h_op (a := enc (Tr.mk ka sa mna mxa tsa)) rfl rfl rfl rfl (by dsimp only [aput, List.set]) ?_
  refine h_met rfl rfl ?_
  refine h_callk c109 (by simp [cloL, clo_enc]) rfl rfl rfl (by dsimp only [aput, List.set]) ?_
  refine h_met rfl rfl ?_
  refine h_op (a := .raw (.bool false)) rfl rfl rfl rfl (by dsimp only [aput, List.set]) ?_
  refine h_op (a := .raw (.bool false)) rfl rfl rfl rfl (by dsimp only [aput, List.set]) ?_
  refine h_op (a := .raw (.bool false)) rfl rfl rfl rfl (by dsimp only [aput, List.set]) ?_
  refine h_met rfl rfl ?_
  refine h_op (a := enc (Tr.mk ka sa mna mxa tsa)) rfl rfl rfl rfl (by dsimp only [aput, List.set]) ?_
  refine h_met rfl rfl ?_
  refine h_op (a := .agg [.raw (.int .u8 0), .raw (.int .u64 0), .raw (.int .u64 0), .raw (.int .u64 0), .raw (.int .u64 0), .raw (.int .i64 0), .raw (.int .i64 0), .list 0 [] .full]) rfl rfl rfl rfl (by dsimp only [aput, List.set]) ?_
  refine h_met rfl rfl ?_
  refine h_op (a := enc (Tr.mk kb sb mnb mxb tsb)) rfl rfl rfl rfl (by dsimp only [aput, List.set]) ?_
  refine h_met rfl rfl ?_
  refine h_op (a := .list 3 (cells (Tr.mk ka sa mna mxa tsa) ++ ([.raw (.int .u8 0), .raw (.int .u64 0), .raw (.int .u64 0), .raw (.int .u64 0), .raw (.int .u64 0), .raw (.int .i64 0), .raw (.int .i64 0), .list 0 [] .full] ++ cells (Tr.mk kb sb mnb mxb tsb))) .full) rfl rfl rfl rfl (by dsimp only [aput, List.set]) ?_
  refine h_met rfl rfl ?_
  refine h_call (args := [.list 3 (cells (Tr.mk ka sa mna mxa tsa) ++ ([.raw (.int .u8 0), .raw (.int .u64 0), .raw (.int .u64 0), .raw (.int .u64 0), .raw (.int .u64 0), .raw (.int .i64 0), .raw (.int .i64 0), .list 0 [] .full] ++ cells (Tr.mk kb sb mnb mxb tsb))) .full]) c126 rfl rfl rfl (by simp [stripL, strip, cellsL, cells, emptyT, noneT, wd_zero, strip_cellsL, enc]) (by simp [okTrimL, okTrim, cells, okTrim_cellsL, enc, okTrim_cells]) (by dsimp only [aput, List.set]) ?_
  refine h_met rfl rfl ?_
  refine h_op (a := .raw (.int .u8 0)) rfl rfl rfl rfl (by dsimp only [aput, List.set]) ?_
  refine h_met rfl rfl ?_
  refine h_op (a := .raw (.bool false)) rfl rfl rfl (q_bool rfl rfl) (by dsimp only [aput, List.set]) ?_
  refine h_op (a := .raw (.bool false)) rfl rfl rfl rfl (by dsimp only [aput, List.set]) ?_
  refine h_op (a := .raw (.bool false)) rfl rfl rfl rfl (by dsimp only [aput, List.set]) ?_
  refine h_met rfl rfl ?_
  refine h_call (args := [.list 0 [] .full]) c131 rfl rfl rfl (by simp [stripL, strip, cellsL, cells, emptyT, noneT, wd_zero, strip_cellsL, enc]) (by simp [okTrimL, okTrim, cells, okTrim_cellsL, enc, okTrim_cells]) (by dsimp only [aput, List.set]) ?_
  refine h_met rfl rfl ?_
  refine h_op (a := .agg [.raw (.int .u8 1), .raw (.int .u64 0), .raw (.int .u64 0), .raw (.int .u64 0), .raw (.int .u64 0), .raw (.int .i64 0), .raw (.int .i64 0), .list 0 [] .full]) rfl rfl rfl rfl (by dsimp only [aput, List.set]) ?_
  refine h_met rfl rfl ?_
  refine h_call (args := [enc emptyT, .agg [.raw (.int .u8 1), .raw (.int .u64 0), .raw (.int .u64 0), .raw (.int .u64 0), .raw (.int .u64 0), .raw (.int .i64 0), .raw (.int .i64 0), .list 0 [] .full]]) c133 rfl rfl rfl (by simp [stripL, strip, cellsL, cells, emptyT, noneT, wd_zero, strip_cellsL, enc]) (by simp [okTrimL, okTrim, cells, okTrim_cellsL, enc, okTrim_cells]) (by dsimp only [aput, List.set]) ?_
  refine h_met rfl rfl ?_
  refine h_op (a := .raw (.bool false)) rfl rfl rfl rfl (by dsimp only [aput, List.set]) ?_
  refine h_op (a := .raw (.bool false)) rfl rfl rfl rfl (by dsimp only [aput, List.set]) ?_
  refine h_op (a := .raw (.bool false)) rfl rfl rfl rfl (by dsimp only [aput, List.set]) ?_
  refine h_met rfl rfl ?_
  refine h_call (args := [.list 0 [] .full]) c137 rfl rfl rfl (by simp [stripL, strip, cellsL, cells, emptyT, noneT, wd_zero, strip_cellsL, enc]) (by simp [okTrimL, okTrim, cells, okTrim_cellsL, enc, okTrim_cells]) (by dsimp only [aput, List.set]) ?_
  refine h_met rfl rfl ?_
  refine h_op (a := .agg [.raw (.int .u8 0), .raw (.int .u64 0), .raw (.int .u64 0), .raw (.int .u64 0), .raw (.int .u64 0), .raw (.int .i64 0), .raw (.int .i64 0), .list 0 [] .full]) rfl rfl rfl rfl (by dsimp only [aput, List.set]) ?_
  refine h_met rfl rfl ?_
  refine h_call (args := [enc noneT, .agg [.raw (.int .u8 0), .raw (.int .u64 0), .raw (.int .u64 0), .raw (.int .u64 0), .raw (.int .u64 0), .raw (.int .i64 0), .raw (.int .i64 0), .list 0 [] .full]]) c139 rfl rfl rfl (by simp [stripL, strip, cellsL, cells, emptyT, noneT, wd_zero, strip_cellsL, enc]) (by simp [okTrimL, okTrim, cells, okTrim_cellsL, enc, okTrim_cells]) (by dsimp only [aput, List.set]) ?_
  refine h_met rfl rfl ?_
  refine h_op (a := .raw (.bool false)) rfl rfl rfl rfl (by dsimp only [aput, List.set]) ?_
  refine h_op (a := .raw (.bool false)) rfl rfl rfl rfl (by dsimp only [aput, List.set]) ?_
  refine h_end ?_
  refine w_false rfl ?_
  refine w_seq ?_
  refine w_draw (id := 10) 9 (by kernel_rfl) (by kernel_rfl) ?_
  refine h_op (a := enc (Tr.mk ka sa mna mxa tsa)) rfl rfl rfl rfl (by dsimp only [aput, List.set]) ?_
  refine h_callk c143 (by simp [cloL, clo, clo_enc, clo_cells, clo_smcL]) rfl rfl rfl (by dsimp only [aput, List.set]) ?_
  refine h_op (a := enc (Tr.mk kb sb mnb mxb tsb)) rfl rfl rfl rfl (by dsimp only [aput, List.set]) ?_
  refine h_callk c145 (by simp [cloL, clo, clo_enc, clo_cells, clo_smcL]) rfl rfl rfl (by dsimp only [aput, List.set]) ?_
  refine h_op rfl rfl rfl (q_add rfl rfl rfl rfl (by omega) (by omega)) (by dsimp only [aput, List.set]) ?_
  refine h_op (a := enc (Tr.mk kc sc mnc mxc tsc)) rfl rfl rfl rfl (by dsimp only [aput, List.set]) ?_
  refine h_callk c148 (by simp [cloL, clo, clo_enc, clo_cells, clo_smcL]) rfl rfl rfl (by dsimp only [aput, List.set]) ?_
  refine h_op rfl rfl rfl (q_add rfl rfl rfl rfl (by omega) (by omega)) (by dsimp only [aput, List.set]) ?_
  refine h_op rfl rfl rfl rfl (by dsimp only [aput, List.set, aval, List.getElem?_cons_zero, List.getElem?_cons_succ, Option.getD]) ?_
  refine h_end ?_
  refine w_seq ?_
  refine w_draw (id := 11) 9 (by kernel_rfl) (by kernel_rfl) ?_
  refine h_op (a := enc (Tr.mk ka sa mna mxa tsa)) rfl rfl rfl rfl (by dsimp only [aput, List.set]) ?_
  refine h_callk c151 (by simp [cloL, clo, clo_enc, clo_cells, clo_smcL]) rfl rfl rfl (by dsimp only [aput, List.set]) ?_
  refine h_op (a := enc (Tr.mk kb sb mnb mxb tsb)) rfl rfl rfl rfl (by dsimp only [aput, List.set]) ?_
  refine h_callk c153 (by simp [cloL, clo, clo_enc, clo_cells, clo_smcL]) rfl rfl rfl (by dsimp only [aput, List.set]) ?_
  refine h_op rfl rfl rfl (q_add rfl rfl rfl rfl (by omega) (by omega)) (by dsimp only [aput, List.set]) ?_
  refine h_op (a := enc (Tr.mk kc sc mnc mxc tsc)) rfl rfl rfl rfl (by dsimp only [aput, List.set]) ?_
  refine h_callk c156 (by simp [cloL, clo, clo_enc, clo_cells, clo_smcL]) rfl rfl rfl (by dsimp only [aput, List.set]) ?_
  refine h_op rfl rfl rfl (q_add rfl rfl rfl rfl (by omega) (by omega)) (by dsimp only [aput, List.set]) ?_
  refine h_op rfl rfl rfl rfl (by dsimp only [aput, List.set, aval, List.getElem?_cons_zero, List.getElem?_cons_succ, Option.getD]) ?_
  refine h_end ?_
  refine w_seq ?_
  refine w_draw (id := 12) 9 (by kernel_rfl) (by kernel_rfl) ?_
  refine h_op (a := enc (Tr.mk ka sa mna mxa tsa)) rfl rfl rfl rfl (by dsimp only [aput, List.set]) ?_
  refine h_callk c159 (by simp [cloL, clo, clo_enc, clo_cells, clo_smcL]) rfl rfl rfl (by dsimp only [aput, List.set]) ?_
  refine h_op (a := enc (Tr.mk kb sb mnb mxb tsb)) rfl rfl rfl rfl (by dsimp only [aput, List.set]) ?_
  refine h_callk c161 (by simp [cloL, clo, clo_enc, clo_cells, clo_smcL]) rfl rfl rfl (by dsimp only [aput, List.set]) ?_
  refine h_op rfl rfl rfl (q_add rfl rfl rfl rfl (by omega) (by omega)) (by dsimp only [aput, List.set]) ?_
  refine h_op (a := enc (Tr.mk kc sc mnc mxc tsc)) rfl rfl rfl rfl (by dsimp only [aput, List.set]) ?_
  refine h_callk c164 (by simp [cloL, clo, clo_enc, clo_cells, clo_smcL]) rfl rfl rfl (by dsimp only [aput, List.set]) ?_
  refine h_op rfl rfl rfl (q_add rfl rfl rfl rfl (by omega) (by omega)) (by dsimp only [aput, List.set]) ?_
  refine h_op rfl rfl rfl rfl (by dsimp only [aput, List.set, aval, List.getElem?_cons_zero, List.getElem?_cons_succ, Option.getD]) ?_
  refine h_end ?_
  refine w_seq ?_
  refine w_draw (id := 13) 64 (by kernel_rfl) (by kernel_rfl) ?_
  refine h_op (a := enc (Tr.mk ks ss mns mxs tss)) rfl rfl rfl rfl (by dsimp only [aput, List.set]) ?_
  refine h_callk c167 (by simp [cloL, clo, clo_enc, clo_cells, clo_smcL]) rfl rfl rfl (by dsimp only [aput, List.set]) ?_
  refine h_op rfl rfl rfl rfl (by dsimp only [aput, List.set, aval, List.getElem?_cons_zero, List.getElem?_cons_succ, Option.getD]) ?_
  refine h_op (a := .raw (.bool true)) rfl rfl rfl (q_bool rfl (by simp; omega)) (by dsimp only [aput, List.set]) ?_
  refine h_op (a := .raw (.bool true)) rfl rfl rfl rfl (by dsimp only [aput, List.set]) ?_
  refine h_met rfl rfl ?_
  refine h_op (a := enc (Tr.mk ko so mno mxo tso)) rfl rfl rfl rfl (by dsimp only [aput, List.set]) ?_
  refine h_met rfl rfl ?_
  refine h_callk c172 (by simp [cloL, clo, clo_enc, clo_cells, clo_smcL]) rfl rfl rfl (by dsimp only [aput, List.set]) ?_
  refine h_met rfl rfl ?_
  refine h_op rfl rfl rfl rfl (by dsimp only [aput, List.set, aval, List.getElem?_cons_zero, List.getElem?_cons_succ, Option.getD]) ?_
  refine h_met rfl rfl ?_
  refine h_op (a := .raw (.bool true)) rfl rfl rfl (q_bool rfl (by simp; omega)) (by dsimp only [aput, List.set]) ?_
  refine h_op (a := .raw (.bool true)) rfl rfl rfl rfl (by dsimp only [aput, List.set]) ?_
  refine h_op (a := .raw (.bool true)) rfl rfl rfl rfl (by dsimp only [aput, List.set]) ?_
  refine h_met rfl rfl ?_
  refine h_op (a := enc (Tr.mk ks ss mns mxs tss)) rfl rfl rfl rfl (by dsimp only [aput, List.set]) ?_
  refine h_met rfl rfl ?_
  refine h_callk c178 (by simp [cloL, clo, clo_enc, clo_cells, clo_smcL]) rfl rfl rfl (by dsimp only [aput, List.set]) ?_
  refine h_met rfl rfl ?_
  refine h_op rfl rfl rfl rfl (by dsimp only [aput, List.set, aval, List.getElem?_cons_zero, List.getElem?_cons_succ, Option.getD]) ?_
  refine h_met rfl rfl ?_
  refine h_op (a := .raw (.bool true)) rfl rfl rfl (q_bool rfl (by simp; omega)) (by dsimp only [aput, List.set]) ?_
  refine h_op (a := .raw (.bool true)) rfl rfl rfl rfl (by dsimp only [aput, List.set]) ?_
  refine h_op (a := .raw (.bool true)) rfl rfl rfl rfl (by dsimp only [aput, List.set]) ?_
  refine h_met rfl rfl ?_
  refine h_op (a := enc (Tr.mk ko so mno mxo tso)) rfl rfl rfl rfl (by dsimp only [aput, List.set]) ?_
  refine h_met rfl rfl ?_
  refine h_callk c184 (by simp [cloL, clo, clo_enc, clo_cells, clo_smcL]) rfl rfl rfl (by dsimp only [aput, List.set]) ?_
  refine h_met rfl rfl ?_
  refine h_op rfl rfl rfl rfl (by dsimp only [aput, List.set, aval, List.getElem?_cons_zero, List.getElem?_cons_succ, Option.getD]) ?_
  refine h_met rfl rfl ?_
  refine h_op (a := .raw (.bool true)) rfl rfl rfl (q_bool rfl (by simp; omega)) (by dsimp only [aput, List.set]) ?_
  refine h_op (a := .raw (.bool true)) rfl rfl rfl rfl (by dsimp only [aput, List.set]) ?_
  refine h_op (a := .raw (.bool true)) rfl rfl rfl rfl (by dsimp only [aput, List.set]) ?_
  refine h_met rfl rfl ?_
  refine h_op (a := enc (Tr.mk ks ss mns mxs tss)) rfl rfl rfl rfl (by dsimp only [aput, List.set]) ?_
  refine h_met rfl rfl ?_
  refine h_callk c190 (by simp [cloL, clo, clo_enc, clo_cells, clo_smcL]) rfl rfl rfl (by dsimp only [aput, List.set]) ?_
  refine h_met rfl rfl ?_
  refine h_op rfl rfl rfl rfl (by dsimp only [aput, List.set, aval, List.getElem?_cons_zero, List.getElem?_cons_succ, Option.getD]) ?_
  refine h_met rfl rfl ?_
  refine h_op rfl rfl rfl (q_add rfl rfl rfl rfl (by omega) (by omega)) (by dsimp only [aput, List.set]) ?_
  refine h_met rfl rfl ?_
  refine h_op (a := .raw (.bool true)) rfl rfl rfl (q_bool rfl (by simp; omega)) (by dsimp only [aput, List.set]) ?_
  refine h_op (a := .raw (.bool true)) rfl rfl rfl rfl (by dsimp only [aput, List.set]) ?_
  refine h_op (a := .raw (.bool true)) rfl rfl rfl rfl (by dsimp only [aput, List.set]) ?_
  refine h_met rfl rfl ?_
  refine h_op (a := enc (Tr.mk ko so mno mxo tso)) rfl rfl rfl rfl (by dsimp only [aput, List.set]) ?_
  refine h_met rfl rfl ?_
  refine h_callk c197 (by simp [cloL, clo, clo_enc, clo_cells, clo_smcL]) rfl rfl rfl (by dsimp only [aput, List.set]) ?_
  refine h_met rfl rfl ?_
  refine h_op rfl rfl rfl rfl (by dsimp only [aput, List.set, aval, List.getElem?_cons_zero, List.getElem?_cons_succ, Option.getD]) ?_
  refine h_met rfl rfl ?_
  refine h_op rfl rfl rfl (q_add rfl rfl rfl rfl (by omega) (by omega)) (by dsimp only [aput, List.set]) ?_
  refine h_met rfl rfl ?_
  refine h_op (a := .raw (.bool true)) rfl rfl rfl (q_bool rfl (by simp; omega)) (by dsimp only [aput, List.set]) ?_
  refine h_op (a := .raw (.bool true)) rfl rfl rfl rfl (by dsimp only [aput, List.set]) ?_
  refine h_op (a := .raw (.bool true)) rfl rfl rfl rfl (by dsimp only [aput, List.set]) ?_
  refine h_met rfl rfl ?_
  refine h_op (a := enc (Tr.mk ko so mno mxo tso)) rfl rfl rfl rfl (by dsimp only [aput, List.set]) ?_
  refine h_met rfl rfl ?_
  refine h_callk c204 (by simp [cloL, clo, clo_enc, clo_cells, clo_smcL]) rfl rfl rfl (by dsimp only [aput, List.set]) ?_
  refine h_met rfl rfl ?_
  refine h_op rfl rfl rfl rfl (by dsimp only [aput, List.set, aval, List.getElem?_cons_zero, List.getElem?_cons_succ, Option.getD]) ?_
  refine h_met rfl rfl ?_
  refine h_op rfl rfl rfl (q_sub rfl rfl rfl rfl (by omega) (by omega)) (by dsimp only [aput, List.set]) ?_
  refine h_met rfl rfl ?_
  refine h_op (a := .raw (.bool true)) rfl rfl rfl (q_bool rfl (by simp; omega)) (by dsimp only [aput, List.set]) ?_
  refine h_op (a := .raw (.bool true)) rfl rfl rfl rfl (by dsimp only [aput, List.set]) ?_
  refine h_op (a := .raw (.bool true)) rfl rfl rfl rfl (by dsimp only [aput, List.set]) ?_
  refine h_met rfl rfl ?_
  refine h_op (a := enc (Tr.mk ka sa mna mxa tsa)) rfl rfl rfl rfl (by dsimp only [aput, List.set]) ?_
  refine h_met rfl rfl ?_
  refine h_op (a := enc (Tr.mk kb sb mnb mxb tsb)) rfl rfl rfl rfl (by dsimp only [aput, List.set]) ?_
  refine h_met rfl rfl ?_
  refine h_op (a := .list 2 (cellsL [(Tr.mk ka sa mna mxa tsa), (Tr.mk kb sb mnb mxb tsb)]) .full) rfl rfl rfl rfl (by dsimp only [aput, List.set]) ?_
  refine h_met rfl rfl ?_
  refine h_call (args := [.list 2 (cellsL [(Tr.mk ka sa mna mxa tsa), (Tr.mk kb sb mnb mxb tsb)]) .full]) c60 rfl rfl rfl (by simp [stripL, strip, strip_cellsL]) (by simp [okTrimL, okTrim, okTrim_cellsL]) (by dsimp only [aput, List.set]) ?_
  refine h_met rfl rfl ?_
  refine h_op (a := enc (Tr.mk ka sa mna mxa tsa)) rfl rfl rfl rfl (by dsimp only [aput, List.set]) ?_
  refine h_met rfl rfl ?_
  refine h_op (a := enc (Tr.mk kb sb mnb mxb tsb)) rfl rfl rfl rfl (by dsimp only [aput, List.set]) ?_
  refine h_met rfl rfl ?_
  refine h_callk c216 (by simp [cloL, clo, clo_enc, clo_cells, clo_smcL]) rfl rfl rfl (by dsimp only [aput, List.set]) ?_
  refine h_met rfl rfl ?_
  refine h_callk c217 (by simp [cloL, clo_enc]) rfl rfl rfl (by dsimp only [aput, List.set]) ?_
  refine h_op (a := .raw (.bool true)) rfl rfl rfl rfl (by dsimp only [aput, List.set]) ?_
  refine h_op (a := .raw (.bool true)) rfl rfl rfl rfl (by dsimp only [aput, List.set]) ?_
  refine h_met rfl rfl ?_
  refine h_op (a := enc (Tr.mk ka sa mna mxa tsa)) rfl rfl rfl rfl (by dsimp only [aput, List.set]) ?_
  refine h_met rfl rfl ?_
  refine h_op (a := enc (Tr.mk kb sb mnb mxb tsb)) rfl rfl rfl rfl (by dsimp only [aput, List.set]) ?_
  refine h_met rfl rfl ?_
  refine h_op (a := .list 2 (cellsL [(Tr.mk ka sa mna mxa tsa), (Tr.mk kb sb mnb mxb tsb)]) .full) rfl rfl rfl rfl (by dsimp only [aput, List.set]) ?_
  refine h_met rfl rfl ?_
  refine h_call (args := [.list 2 (cellsL [(Tr.mk ka sa mna mxa tsa), (Tr.mk kb sb mnb mxb tsb)]) .full]) c83 rfl rfl rfl (by simp [stripL, strip, strip_cellsL]) (by simp [okTrimL, okTrim, okTrim_cellsL]) (by dsimp only [aput, List.set]) ?_
  refine h_met rfl rfl ?_
  refine h_op (a := enc (Tr.mk ka sa mna mxa tsa)) rfl rfl rfl rfl (by dsimp only [aput, List.set]) ?_
  refine h_met rfl rfl ?_
  refine h_op (a := enc (Tr.mk kb sb mnb mxb tsb)) rfl rfl rfl rfl (by dsimp only [aput, List.set]) ?_
  refine h_met rfl rfl ?_
  refine h_callk c226 (by simp [cloL, clo, clo_enc, clo_cells, clo_smcL]) rfl rfl rfl (by dsimp only [aput, List.set]) ?_
  refine h_met rfl rfl ?_
  refine h_callk c227 (by simp [cloL, clo_enc]) rfl rfl rfl (by dsimp only [aput, List.set]) ?_
  refine h_op (a := .raw (.bool true)) rfl rfl rfl rfl (by dsimp only [aput, List.set]) ?_
  refine h_op (a := .raw (.bool true)) rfl rfl rfl rfl (by dsimp only [aput, List.set]) ?_
  refine h_end ?_
  exact end_pure (a := .raw (.bool true)) rfl rfl rfl
/-- **RxTogether says yes.** -/
theorem rxtog_pure (j k l : List Sm) (hj : j.length < 2 ^ 63) (hk : k.length < 2 ^ 63) (hl : l.length < 2 ^ 63) : Pure (ITP Try.prog) Try.prog 3 [.list j.length (smcL j) .none, .list k.length (smcL k) .none, .list l.length (smcL l) .none] (.raw (.bool true)) := by
  have ma := made_mt j
  have mb := made_mt k
  have mc := made_mt l
  cases hA : madeT j with | mk ka sa mna mxa tsa =>
  cases hB : madeT k with | mk kb sb mnb mxb tsb =>
  cases hC : madeT l with | mk kc sc mnc mxc tsc =>
  rw [hA] at ma
  rw [hB] at mb
  rw [hC] at mc
  cases hS : seqT [(Tr.mk ka sa mna mxa tsa), (Tr.mk kb sb mnb mxb tsb), (Tr.mk kc sc mnc mxc tsc)] with | mk ks ss mns mxs tss =>
  cases hO : orT [(Tr.mk ka sa mna mxa tsa), (Tr.mk kb sb mnb mxb tsb), (Tr.mk kc sc mnc mxc tsc)] with | mk ko so mno mxo tso =>
  cases h1 : seqT [(Tr.mk ka sa mna mxa tsa), (Tr.mk kb sb mnb mxb tsb)] with | mk k1 s1 mn1 mx1 ts1 =>
  cases h2 : seqT [(Tr.mk kb sb mnb mxb tsb), (Tr.mk kc sc mnc mxc tsc)] with | mk k2 s2 mn2 mx2 ts2 =>
  cases h3 : orT [(Tr.mk ka sa mna mxa tsa), (Tr.mk kb sb mnb mxb tsb)] with | mk k3 s3 mn3 mx3 ts3 =>
  cases h4 : orT [(Tr.mk kb sb mnb mxb tsb), (Tr.mk kc sc mnc mxc tsc)] with | mk k4 s4 mn4 mx4 ts4 =>
  exact rxtog_walk j k l hj hk hl _ _ _ _ _ _ _ _ _ _ _ _ _ _ _ _ _ _ _ _ _ _ _ _ _ _ _ _ _ _ _ _ _ _ _ _ _ _ _ _ _ _ _ _ _ hA hB hC ⟨ma, mb, mc, hS, hO⟩ h1 h2 h3 h4
end Go.Ab
