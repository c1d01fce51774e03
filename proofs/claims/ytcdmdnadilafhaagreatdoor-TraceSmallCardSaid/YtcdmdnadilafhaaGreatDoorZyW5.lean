/-
  trace: Copy.
-/
import Derived.Test.YtcdmdnadilafhaaGreatDoorZdStr
import Derived.Test.YtcdmdnadilafhaaGreatDoorZyEn2
import Derived.Test.YtcdmdnadilafhaaGreatDoorZyQc
import Derived.Test.YtcdmdnadilafhaaGreatDoorZdQr
set_option linter.unusedSimpArgs false
set_option linter.unusedVariables false
namespace Go.Ab
open Go Go.RowKit Go.Fwd Go.Proofs
theorem ent13 : Ent Tryz.prog 13 := enters_of Tryz.func13 (by kernel_rfl) rfl
set_option maxRecDepth 100000 in
set_option maxHeartbeats 4000000 in
theorem zkf (l : List En) (g : l.length * 40 ≤ 140737488355328) : Pure (ITP Tryz.prog) Tryz.prog 13 [.list l.length (Enc.cellsL l) .none] (.list l.length (Enc.cellsL l) .none) := by
 obtain ⟨d, hd⟩ : ∃ d, Tryz.f13.body = some d := ⟨_, rfl⟩
 refine zt1 mix Tryz.func13 hd ent13 ?_
 cases hd
 refine zmg (by dsimp only [zdb, Tryz.f13, List.length_cons, List.length_nil, Nat.zero_add, Nat.reduceAdd, Nat.reduceSub, List.replicate, List.cons_append, List.nil_append]) (by dsimp only [St.empty]) ?_
 refine zj (zc ?_)
 refine zgp (a := .list 0 [] .full) rfl rfl rfl rfl (by dsimp only [z6, List.set]) ?_
 refine zj ?_
 refine zj (zc ?_)
 refine zgp (a := .list l.length (Enc.cellsL l) .none) rfl rfl rfl rfl (by dsimp only [z6, List.set]) ?_
 refine w_nil l.length false rfl rfl rfl ⟨_, _, _, _, _, rfl, .inl ⟨rfl, rfl⟩, rfl, .inl ⟨_, _, rfl⟩⟩ (by dsimp only [z6, List.set]) (by dsimp only [z6, List.set]) (fun h1 => ?_) ?_
 ·obtain rfl := List.length_eq_zero_iff.1 h1
  refine za6 rfl ?_
  refine zj (zc ?_)
  refine zgp (a := .list 0 [] .full) rfl rfl rfl rfl (by dsimp only [z6, List.set]) ?_
  exact zqh rfl rfl rfl
 ·refine zbv rfl ?_
  refine zj (zc ?_)
  by_cases h0 : l = []
  ·subst h0
   refine zgp (a := .list 0 [] .full) rfl rfl rfl rfl (by dsimp only [z6, List.set]) ?_
   refine zgp (a := .list 0 [] .none) rfl rfl rfl rfl (by dsimp only [z6, List.set]) ?_
   refine zgp (a := .list 0 [] .full) rfl rfl rfl rfl (by dsimp only [z6, List.set]) ?_
   refine zgp (a := .list 0 [] .full) rfl rfl rfl rfl (by dsimp only [z6, List.set]) ?_
   exact zqh rfl rfl rfl
  ·have hp := List.length_pos_iff.2 h0
   refine zgp (a := .list 0 [] .full) rfl rfl rfl rfl (by dsimp only [z6, List.set]) ?_
   refine zgp (a := .list l.length (Enc.cellsL l) .none) rfl rfl rfl rfl (by dsimp only [z6, List.set]) ?_
   refine zmn rfl rfl rfl (zvo rfl rfl rfl rfl rfl rfl rfl rfl rfl (zsi ⟨rfl, Enc.lenL l, by decide⟩) ⟨by decide, rfl, hp⟩ ⟨rfl, by unfold maxLen; omega, by show (0 + l.length) * 40 ≤ _; omega⟩) (by dsimp only [z6, List.set]) rfl ?_
   refine zgp rfl rfl rfl rfl (by dsimp only [z6, List.set, zbz, List.getElem?_cons_zero, List.getElem?_cons_succ, Option.getD]) ?_
   refine end_frz 1 rfl ?_
   exact zzn (α := En) (t := 41) (l := l) (Nat.zero_add _).symm rfl
set_option maxRecDepth 100000 in
set_option maxHeartbeats 4000000 in
theorem zs2 (l : List En) (h0 : 0 < l.length) (g : l.length * 40 ≤ 140737488355328) : Snd (ITP Tryz.prog) Tryz.prog 13 [.list l.length (Enc.cellsL l) .none] St.empty (.bsl 0 0 l.length 4 false) ⟨[(41, Enc.cellsL l)], [], [], 0, false⟩ := by
 obtain ⟨d, hd⟩ : ∃ d, Tryz.f13.body = some d := ⟨_, rfl⟩
 refine zut mix Tryz.func13 hd ent13 ?_
 cases hd
 refine zmg (by dsimp only [zdb, Tryz.f13, List.length_cons, List.length_nil, Nat.zero_add, Nat.reduceAdd, Nat.reduceSub, List.replicate, List.cons_append, List.nil_append]) (by dsimp only [St.empty]) ?_
 refine zj (zc ?_)
 refine zgp (a := .list 0 [] .full) rfl rfl rfl rfl (by dsimp only [z6, List.set]) ?_
 refine zj ?_
 refine zj (zc ?_)
 refine zgp (a := .list l.length (Enc.cellsL l) .none) rfl rfl rfl rfl (by dsimp only [z6, List.set]) ?_
 refine w_nil l.length false rfl rfl rfl ⟨_, _, _, _, _, rfl, .inl ⟨rfl, rfl⟩, rfl, .inl ⟨_, _, rfl⟩⟩ (by dsimp only [z6, List.set]) (by dsimp only [z6, List.set]) (fun h1 => ?_) ?_
 ·exact absurd h1 (by omega)
 ·refine zbv rfl ?_
  refine zj (zc ?_)
  refine zgp (a := .list 0 [] .full) rfl rfl rfl rfl (by dsimp only [z6, List.set]) ?_
  refine zgp (a := .list l.length (Enc.cellsL l) .none) rfl rfl rfl rfl (by dsimp only [z6, List.set]) ?_
  refine zmn rfl rfl rfl (zvo rfl rfl rfl rfl rfl rfl rfl rfl rfl (zsi ⟨rfl, Enc.lenL l, by decide⟩) ⟨by decide, rfl, h0⟩ ⟨rfl, by unfold maxLen; omega, by show (0 + l.length) * 40 ≤ _; omega⟩) (by dsimp only [z6, List.set]) rfl ?_
  refine zgp rfl rfl rfl rfl (by dsimp only [z6, List.set, zbz, List.getElem?_cons_zero, List.getElem?_cons_succ, Option.getD]) ?_
  refine zu0 (n := 0) (m := 0) [] [0] 0 rfl rfl ?_ ?_
  ·show AV.bsl 0 0 (0 + l.length) 4 false = _; rw [Nat.zero_add]
  ·simp [zg4, zbx, zcp _ _ _ (Enc.cloL l), St.empty]
theorem zj5 (l : List En) (h0 : 0 < l.length) (g : l.length * 40 ≤ 140737488355328) (n : Nat) (σ : St) (hσ : σ.boxes.length = n) : Snd (ITP Tryz.prog) Tryz.prog 13 [.list l.length (Enc.cellsL l) .none] σ (.bsl n 0 l.length 4 false) { σ with boxes := σ.boxes ++ [(41, Enc.cellsL l)] } := by
 subst hσ
 have h := zun (za5 _) (zs2 l h0 g) (args := [.list l.length (Enc.cellsL l) .none]) (by rw [stripL, zcn, Enc.stripL]; rfl) (by rw [zx, za4, zak _ _ (Enc.cloL l)]; rfl) σ
 simpa [zjy, shz, zeq, zcp _ _ _ (Enc.cloL l)] using h
section
variable {P : Program} {ρ : Operand → AV} {σ : St} {o : Oper}
theorem q_subL_ {α : Type} [Enc α] {l : List α} {x y : Operand} {t e : TypeId} {st : Room} {i : Int} (g : 0 ≤ i ∧ i ≤ (l.length : Int) ∧ (l.length : Int) ≤ (l.length : Int)) (ho : o.op = .slice t x (some y) none none) (hx : ρ x = .list l.length (Enc.cellsL l) st) (hy : ρ y = .raw (.int .i64 i)) (hu : P.underlying t = some (.slice e)) (hs : zc7 P e = some (Enc.sz α)) :
 qop P ρ σ o = some (.list (sub l i l.length).length (Enc.cellsL (sub l i l.length)) (zkt l.length i l.length st)) := by
 have h1 : zgn P t (ρ x) (some (ρ y)) none none = some (.list (sub l i l.length).length (Enc.cellsL (sub l i l.length)) (zkt l.length i l.length st)) := by
  have hj := g.1
  have hk := g.2.1
  rw [zvl l g, ← zq6 l g, hx, hy]
  simp [zgn, hu, hs, ze7, zgo, Enc.lenL, zkt, hj, hk]
 simp only [qop, ho, Option.map, h1]
end
end Go.Ab
set_option linter.unusedSimpArgs false
set_option linter.unusedVariables false
set_option maxRecDepth 100000
set_option maxHeartbeats 4000000
namespace Go.Ab
open Go Go.RowKit Go.Fwd Go.Proofs
def zuq (t : Trc) : Option Trc :=
 (chk (List.length t.l * 40 ≤ 140737488355328) (za7 t.l (fun x1 => (some (Trc.mk x1 t.e)))))
theorem ent36 : Ent Tryz.prog 36 := enters_of Tryz.func36 (by kernel_rfl) rfl
theorem copy_sh (t : Trc) (r : Trc) (h : zuq t = some r) : Pure (ITP Tryz.prog) Tryz.prog 36 [.A (t : Trc)] (.A (r : Trc)) := by
 unfold zuq at h
 refine zah 8 mix Tryz.func36 ent36 ?_
 refine zj (zc ?_)
 refine zbr (a := .ptr 0 0) (σ'' := (.B [(27, (Enc.cells (t : Trc)))])) ?_
 refine zbr (a := .ptr 1 0) (σ'' := (.B [(27, (Enc.cells (t : Trc))), (27, [.list 0 [] .full, .u 0, .i 0])])) ?_
 refine zj ?_
 refine zb3 (k0 := 0) (id := 1) 5 (by kernel_rfl) (by kernel_rfl) ?_
 refine h_o (a := .ptr 0 0) ?_
 refine h_o (a := .L (t.l : List En)) ?_
 obtain ⟨g1, h⟩ := zf h
 obtain ⟨x1, hx1, h⟩ := zo h
 refine zgr (args' := [.L (t.l : List En)]) (r := .L (x1 : List En)) (by rw [← hx1]; exact (zkf t.l g1)) ?_
 refine h_o (a := .ptr 0 1) ?_
 refine h_o (a := .A (t.e : Ed)) ?_
 refine zbq ?_
 refine zvh (.A ((Trc.mk x1 t.e) : Trc)) (a0 := (zqq (Trc.mk x1 t.e) .none)) rfl rfl rfl (by kernel_rfl) (zbf _ _) (by dsimp only [z6, List.set]) ?_
 refine zcg 3 (.B [(27, (Enc.cells (t : Trc))), (27, (Enc.cells ((Trc.mk x1 t.e) : Trc)))]) ?_
 exact zam (fun (r : Trc) => .A (r : Trc)) h (.A ((Trc.mk x1 t.e) : Trc))
def zt7 (t : Trc) : Option Unit :=
 (chk (List.length t.l * 40 ≤ 140737488355328) (some ()))
theorem ent36S : Ent Tryz.prog 36 := enters_of Tryz.func36 (by kernel_rfl) rfl
set_option maxRecDepth 100000 in
set_option maxHeartbeats 4000000 in
theorem z0z (t : Trc) (h0 : 0 < t.l.length) (h : zt7 t = some ()) : Snd (ITP Tryz.prog) Tryz.prog 36 [.agg (Enc.cells (t : Trc))] St.empty (.agg [.bsl 0 0 (List.length t.l) 4 false, .raw (.int .u8 t.e.k), .raw (.int .i64 t.e.c)]) ⟨[(41, (Enc.cellsL (t.l : List En)))], [], [], 0, false⟩ := by
 obtain ⟨d, hd⟩ : ∃ d, Tryz.f36.body = some d := ⟨_, rfl⟩
 refine zut mix Tryz.func36 hd ent36S ?_
 cases hd
 unfold zt7 at h
 refine zmg (by dsimp only [zdb, Tryz.f36, List.length_cons, List.length_nil, Nat.zero_add, Nat.reduceAdd, Nat.reduceSub, List.replicate, List.cons_append, List.nil_append]) (by dsimp only [St.empty]) ?_
 refine zj (zc ?_)
 refine zbr (a := .ptr 0 0) (σ'' := ⟨[(27, (Enc.cells (t : Trc)))], [], [], 0, false⟩) ?_
 refine zbr (a := .ptr 1 0) (σ'' := ⟨[(27, (Enc.cells (t : Trc))), (27, [.list 0 [] .full, .raw (.int .u8 0), .raw (.int .i64 0)])], [], [], 0, false⟩) ?_
 obtain ⟨g1, h⟩ := zf h
 refine zc8 (id := 1) [.agg (Enc.cells (t : Trc)), .ptr 0 0, .ptr 1 0, .ptr 0 0, .list (List.length (t.l : List En)) (Enc.cellsL (t.l : List En)) .none, .bsl 2 0 (List.length t.l) 4 false, .ptr 0 1, .agg (Enc.cells (t.e : Ed)), .agg [.bsl 2 0 (List.length t.l) 4 false, .raw (.int .u8 t.e.k), .raw (.int .i64 t.e.c)]] ⟨[(27, (Enc.cells (t : Trc))), (27, [.bsl 2 0 (List.length t.l) 4 false, .raw (.int .u8 t.e.k), .raw (.int .i64 t.e.c)]), (41, (Enc.cellsL (t.l : List En)))], [], [], 0, false⟩ ?_ ?_
 ·
  refine zbs (fun ops hops FIN hFIN S0 hS0 => ?_)
  let v3 : AV := .ptr 0 0
  let v6 : AV := .ptr 0 1
  let v4 : AV := .list (List.length (t.l : List En)) (Enc.cellsL (t.l : List En)) .none
  let v7 : AV := .agg (Enc.cells (t.e : Ed))
  let v5 : AV := .bsl 2 0 (List.length t.l) 4 false
  let v8 : AV := .agg [.bsl 2 0 (List.length t.l) 4 false, .raw (.int .u8 t.e.k), .raw (.int .i64 t.e.c)]
  let G0 : St := ⟨[(27, (Enc.cells (t : Trc))), (27, [.list 0 [] .full, .raw (.int .u8 0), .raw (.int .i64 0)])], [], [], 0, false⟩
  let G1 : St := ⟨[(27, (Enc.cells (t : Trc))), (27, [.list 0 [] .full, .raw (.int .u8 0), .raw (.int .i64 0)]), (41, (Enc.cellsL (t.l : List En)))], [], [], 0, false⟩
  let G2 : St := ⟨[(27, (Enc.cells (t : Trc))), (27, [.bsl 2 0 (List.length t.l) 4 false, .raw (.int .u8 t.e.k), .raw (.int .i64 t.e.c)]), (41, (Enc.cellsL (t.l : List En)))], [], [], 0, false⟩
  obtain ⟨ps, hps⟩ : ∃ ps : List (Option (Nat × AV)), ps = [some (3, v3), some (4, v4), some (5, v5), some (6, v6), some (7, v7), some (8, v8), none] := ⟨_, rfl⟩
  let N : Nat → Nat → St → Prop := fun k m σ => aN (ITP Tryz.prog) Tryz.prog none ops FIN S0 ps 7 k m σ
  have n13 : N 0 127 G2 := by
   exact zu5 hops hS0 hps (hFIN _ _ (Wk.refl _ _ _))
  have n12 : N 1 63 G1 := by
   refine zan hops hS0 hps 6 ?_
   ·
    refine zbr (σ'' := G2) (h := zm0 (n := 3) rfl rfl rfl rfl rfl rfl rfl rfl (by decide)) ?_
    exact zb n13 hS0 hps
  have n11 : N 2 31 G1 := by
   refine zan hops hS0 hps 5 ?_
   ·
    refine w_o (a := v8) ?_
    exact zb n12 hS0 hps
  have n10 : N 3 27 G0 := by
   refine zan hops hS0 hps 2 ?_
   ·
    refine zlp (r := v5) (σ' := ⟨[(27, (Enc.cells (t : Trc))), (27, [.list 0 [] .full, .raw (.int .u8 0), .raw (.int .i64 0)]), (41, (Enc.cellsL (t.l : List En)))], [], [], 0, false⟩) (zj5 t.l h0 g1 2 _ rfl) rfl rfl ⟨rfl, rfl⟩ (by dsimp only [z6, List.set]) ?_
    exact zb n11 hS0 hps
  have n9 : N 3 15 G1 := by
   refine zan hops hS0 hps 4 ?_
   ·
    refine w_o (a := v7) ?_
    exact zb n11 hS0 hps
  have n8 : N 4 25 G0 := by
   refine zan hops hS0 hps 1 ?_
   ·
    refine w_o (a := v4) ?_
    exact zb n10 hS0 hps
  have n7 : N 4 11 G0 := by
   refine zab hops hS0 hps 2 4 ?_ ?_
   ·
    refine zlp (r := v5) (σ' := ⟨[(27, (Enc.cells (t : Trc))), (27, [.list 0 [] .full, .raw (.int .u8 0), .raw (.int .i64 0)]), (41, (Enc.cellsL (t.l : List En)))], [], [], 0, false⟩) (zj5 t.l h0 g1 2 _ rfl) rfl rfl ⟨rfl, rfl⟩ (by dsimp only [z6, List.set]) ?_
    exact zb n9 hS0 hps
   ·
    refine w_o (a := v7) ?_
    exact zb n10 hS0 hps
  have n6 : N 4 7 G1 := by
   refine zan hops hS0 hps 3 ?_
   ·
    refine w_o (a := v6) ?_
    exact zb n9 hS0 hps
  have n5 : N 5 24 G0 := by
   refine zan hops hS0 hps 0 ?_
   ·
    refine w_o (a := v3) ?_
    exact zb n8 hS0 hps
  have n4 : N 5 9 G0 := by
   refine zab hops hS0 hps 1 4 ?_ ?_
   ·
    refine w_o (a := v4) ?_
    exact zb n7 hS0 hps
   ·
    refine w_o (a := v7) ?_
    exact zb n8 hS0 hps
  have n3 : N 5 3 G0 := by
   refine zab hops hS0 hps 2 3 ?_ ?_
   ·
    refine zlp (r := v5) (σ' := ⟨[(27, (Enc.cells (t : Trc))), (27, [.list 0 [] .full, .raw (.int .u8 0), .raw (.int .i64 0)]), (41, (Enc.cellsL (t.l : List En)))], [], [], 0, false⟩) (zj5 t.l h0 g1 2 _ rfl) rfl rfl ⟨rfl, rfl⟩ (by dsimp only [z6, List.set]) ?_
    exact zb n6 hS0 hps
   ·
    refine w_o (a := v6) ?_
    exact zb n7 hS0 hps
  have n2 : N 6 8 G0 := by
   refine zab hops hS0 hps 0 4 ?_ ?_
   ·
    refine w_o (a := v3) ?_
    exact zb n4 hS0 hps
   ·
    refine w_o (a := v7) ?_
    exact zb n5 hS0 hps
  have n1 : N 6 1 G0 := by
   refine zab hops hS0 hps 1 3 ?_ ?_
   ·
    refine w_o (a := v4) ?_
    exact zb n3 hS0 hps
   ·
    refine w_o (a := v6) ?_
    exact zb n4 hS0 hps
  have n0 : N 7 0 G0 := by
   refine zab hops hS0 hps 0 3 ?_ ?_
   ·
    refine w_o (a := v3) ?_
    exact zb n1 hS0 hps
   ·
    refine w_o (a := v6) ?_
    exact zb n2 hS0 hps
  exact zc1 n0 hps
 ·
  exact zu0 (n := 0) (m := 0) [] [2] 1 rfl rfl (zzo (zil rfl (zil (zpx _ _ _ rfl) (zil (zpx _ _ _ rfl) zwf)))) (zxm (zx3 rfl (zcp _ _ _ (Enc.cloL _)) zug) rfl)
end Go.Ab
