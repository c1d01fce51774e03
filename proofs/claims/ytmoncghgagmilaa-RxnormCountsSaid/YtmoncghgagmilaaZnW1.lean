/-
  rx, rxnorm: functions without loops.
-/
import Derived.Test.YtmoncghgagmilaaZdQq
import Derived.Test.YtmoncghgagmilaaZnEn
set_option linter.unusedSimpArgs false
set_option linter.unusedVariables false
namespace Go.Ab
open Go Go.RowKit Go.Fwd
section
variable {P : Program} {ρ : Operand → AV} {σ : St} {o : Oper}
end
end Go.Ab
set_option linter.unusedSimpArgs false
set_option linter.unusedVariables false
namespace Go.Ab
open Go Go.RowKit Go.Fwd
inductive RV where
 | v (a : AV) | m (a : AV) | x (a : AV) | p
def RV.val : RV → AV
 | .v a => a
 | .m a => a
 | .x a => a
 | .p => .raw undef
def gst (ops : Array Oper) (S : List AV) (o : Oper) : Option Bool := match o.guard with
 | none => some true
 | some (k, b) => match zd9 ops S k with
  | some (some c) => some (c == b)
  | some none => some false
  | none => none
def oneV (P : Program) (ops : Array Oper) (σ : St) (S : List AV) (o : Oper) : RV → Option (AV × St)
 | .v _ => match gst ops S o, zcz S o, zdj S o with
  | some true, none, none => aop P (zcs S) σ o
  | _, _, _ => none
 | .m _ => match gst ops S o with
  | some true => match mvOf o.op with
   | some k => match S[k]? with
    | some a => some (a, σ)
    | none => none
   | none => none
  | _ => none
 | .x _ => match gst ops S o with
  | some true => match exOf o.op with
   | some (k, i) => match S[k]? with
    | some (.tup vs) => match vs[i]? with
     | some a => some (a, σ)
     | none => none
    | _ => none
   | none => none
  | _ => none
 | .p => match gst ops S o with
  | some false => some (.raw undef, σ)
  | _ => none
def outV (P : Program) (ops : Array Oper) (σ : St) : List RV → List Oper → List AV → List (Option (AV × St))
 | x :: vs, o :: l, S => oneV P ops σ S o x :: outV P ops σ vs l (zp S o.dst x.val)
 | _ :: _, [], _ => [none]
 | [], _, _ => []
def putV : List RV → List Oper → List AV → List AV
 | x :: vs, o :: l, S => putV vs l (zp S o.dst x.val)
 | _, _, S => S
def zv5 : List RV → List Oper → List Oper
 | _ :: vs, _ :: l => zv5 vs l
 | _, l => l
def expV (σ : St) : List RV → List (Option (AV × St))
 | x :: vs => some (x.val, σ) :: expV σ vs
 | [] => []
section
variable {IT : IterP} {P : Program} {W : Owed} {ops : Array Oper} {Q : List AV → St → Prop} {o : Oper} {l L l' : List Oper} {S S' : List AV} {σ σ' σ'' : St} {a : AV} {k0 : Nat}
theorem z44 {c : Bool} (h : gst ops S o = some c) : o.guard = none ∧ c = true ∨ ∃ k b d, o.guard = some (k, b) ∧ zd9 ops S k = some d ∧ (c = true → d = some b) ∧ (c = false → d ≠ some b) := by
 unfold gst at h
 split at h
 ·exact .inl ⟨‹_›, (Option.some.inj h).symm⟩
 ·rename_i k b hg
  split at h
  ·rename_i d hd
   cases h
   refine .inr ⟨k, b, _, hg, hd, fun e => ?_, fun e => ?_⟩
   ·rw [beq_iff_eq] at e; rw [e]
   ·intro e'; cases e'; simp at e
  ·rename_i hd; cases h; exact .inr ⟨k, b, _, hg, hd, nofun, nofun⟩
  ·cases h
theorem zxe (h : gst ops S o = some true) (k : zfh IT P W o S σ fun a σ' => zco IT P W ops Q l (zp S o.dst a) σ') : zco IT P W ops Q (o :: l) S σ := by
 rcases z44 h with ⟨hg, _⟩ | ⟨kk, b, d, hg, hd, h1, _⟩
 ·simp only [zco, hg]; exact k
 ·simp only [zco, hg]; exact ⟨d, hd, by rw [h1 rfl, if_pos rfl]; exact k⟩
theorem w_one {x : RV} (h : oneV P ops σ S o x = some (x.val, σ)) (k : zco IT P W ops Q l (zp S o.dst x.val) σ) : zco IT P W ops Q (o :: l) S σ := by
 cases x with
 | v a =>
  simp only [oneV] at h
  split at h
  ·rename_i h1 h2 h3
   refine zxe h1 ?_
   simp only [zfh, h2, h3]
   exact .inl ⟨_, _, .inl h, k⟩
  ·cases h
 | m a =>
  simp only [oneV] at h
  split at h
  ·rename_i h1
   split at h
   ·rename_i kk h2
    split at h
    ·rename_i b h3
     obtain ⟨q1, q2, q3⟩ := zrq (P := P) (σ := σ) h2 h3
     have e : b = a := congrArg Prod.fst (Option.some.inj h)
     subst e
     refine zxe h1 ?_
     simp only [zfh, q1, q2]
     exact .inl ⟨_, _, .inl (zbs q3), k⟩
    ·cases h
   ·cases h
  ·cases h
 | x a =>
  simp only [oneV] at h
  split at h
  ·rename_i h1
   split at h
   ·rename_i kk i h2
    split at h
    ·rename_i vs h3
     split at h
     ·rename_i b h4
      obtain ⟨q1, q2, q3⟩ := zzj (P := P) (σ := σ) h2 h3 h4
      have e : b = a := congrArg Prod.fst (Option.some.inj h)
      subst e
      refine zxe h1 ?_
      simp only [zfh, q1, q2]
      exact .inl ⟨_, _, .inl (zbs q3), k⟩
     ·cases h
    ·cases h
   ·cases h
  ·cases h
 | p =>
  simp only [oneV] at h
  split at h
  ·rename_i h1
   rcases z44 h1 with ⟨_, e⟩ | ⟨kk, b, d, hg, hd, _, h2⟩
   ·cases e
   ·exact z7n hg hd (h2 rfl) rfl k
  ·cases h
theorem w_r (vs : List RV) (k : zco IT P W ops Q l' S' σ) (h : outV P ops σ vs l S = expV σ vs := by exact rfl) (hl : zv5 vs l = l' := by dsimp only [zv5, List.toList_toArray, List.drop]) (hS : putV vs l S = S' := by dsimp only [putV, RV.val, zp, List.set, List.toList_toArray, List.drop]) : zco IT P W ops Q l S σ := by
 subst hl hS
 induction vs generalizing l S with
 | nil => simpa [putV, zv5] using k
 | cons x vs ih =>
  cases l with
  | nil => simp [outV, expV] at h
  | cons o l =>
   simp only [outV, expV, List.cons.injEq] at h
   exact w_one h.1 (ih h.2 (by simpa [putV, zv5] using k))
theorem zr {id : Nat} {x y : Code} {Q : AQ} (vs : List RV) (k : zco IT P W ops (zne (awp IT P W k0 y Q) Q .normal) l' S' σ) (hx : x = .region id ops false := by exact rfl) (h : outV P ops σ vs ops.toList S = expV σ vs := by exact rfl) (hl : zv5 vs ops.toList = l' := by dsimp only [zv5, List.toList_toArray]) (hS : putV vs ops.toList S = S' := by dsimp only [putV, RV.val, zp, List.set, List.toList_toArray]) : awp IT P W k0 (.seq x y) Q S σ := by
 subst hx
 exact ze (zd (w_r vs k h hl hS))
theorem zaw {t b : Bool} (e : t = b) (k : zco IT P W ops Q l S' σ) (hg : o.guard = none := by exact rfl) (hc : zcz S o = none := by exact rfl) (hy : zdj S o = none := by exact rfl) (h : qop P (zcs S) σ o = some (.raw (.bool t)) := by exact rfl) (hS : zp S o.dst (.raw (.bool b)) = S' := by dsimp only [zp, List.set]) : zco IT P W ops Q (o :: l) S σ :=
 zfb hg hc hy (zbs (zak h e)) hS k
theorem zv1 {x y : Operand} {t : TypeId} {c} {m n : Int} (g : -9223372036854775808 ≤ m + n ∧ m + n < 9223372036854775808) (k : zco IT P W ops Q l S' σ) (hg : o.guard = none := by exact rfl) (ho : o.op = .binOp .add t x y c := by exact rfl) (hx : zcs S x = .raw (.int .i64 m) := by exact rfl) (hv : zcs S y = .raw (.int .i64 n) := by exact rfl) (hS : zp S o.dst (.raw (.int .i64 (m + n))) = S' := by dsimp only [zp, List.set]) : zco IT P W ops Q (o :: l) S σ :=
 zfb hg (by simp [zcz, ho]) (by simp [zdj, ho]) (zbs (zhr ho hx hv rfl g.1 g.2)) hS k
theorem zwf {α : Type} [Enc α] {t e : TypeId} {x i : Operand} {u : α} {xs : List α} {st : Room} {kd : IntKind} {n : Int} (hu : ix xs n = u) (g : 0 ≤ n ∧ n < xs.length) (k : zco IT P W ops Q l S' σ) (hg : o.guard = none := by exact rfl) (ho : o.op = .indexAddr t x i := by exact rfl) (hx : zcs S x = .list xs.length (Enc.cellsL xs) st := by exact rfl) (hi : zcs S i = .raw (.int kd n) := by exact rfl) (ht : P.underlying t = some (.slice e) := by exact rfl) (hs : zec P e = some (Enc.sz α) := by exact rfl)
 (hS : zp S o.dst (.iptr (Enc.cells u ++ Enc.cellsL (xs.drop (n.toNat + 1)))) = S' := by dsimp only [zp, List.set]) : zco IT P W ops Q (o :: l) S σ := by
 subst hu
 exact zfb hg (by simp [zcz, ho]) (by simp [zdj, ho]) (zbs (zkc g ho hx hi ht hs)) hS k
theorem zbm {t : TypeId} {x y : Operand} {s : Nat} {v : AV} {bx : TypeId × List AV} (n : Nat) (σ'' : St) (k : zco IT P W ops Q l S' σ'') (hg : o.guard = none := by exact rfl) (ho : o.op = .store t x y := by exact rfl) (hx : zcs S x = .ptr s 0 := by exact rfl) (hv : zcs S y = v := by exact rfl) (hb : σ.boxes[s]? = some bx := by exact rfl) (hn : zec P t = some n := by exact rfl) (hl : bx.2.length = n := by exact rfl) (hc : zho v = true := by exact rfl) (hvl : (cellsOf v).length = n := by exact rfl) (h0 : 0 < n := by decide)
 (hS : zp S o.dst (.raw undef) = S' := by dsimp only [zp, List.set]) (hσ : { σ with boxes := σ.boxes.set s (bx.1, cellsOf v) } = σ'' := by exact rfl) : zco IT P W ops Q (o :: l) S σ :=
 zrl hg (by simp [zcz, ho]) (by simp [zdj, ho]) (za5 ho hx hv hb hn hl hc hvl h0) hS hσ k
theorem zbq {f : FuncId} {args args' : List AV} {r : AV} (hp : Pure IT P f args' r) (k : zco IT P W ops Q l S' σ) (hg : o.guard = none := by exact rfl) (hc : zcz S o = some (f, args) := by exact rfl)
 (hs : stripL args = args' := by repeat (first | exact rfl | refine zf (by first | exact zai (zl (Enc.clo _)) | exact zer (Enc.cloL _) | exact zso (Enc.cloL _) Enc.z | exact rfl) ?_))
 (hok : z7 0 args = true := by repeat (first | exact rfl | refine zb (by first | exact zn _ _ (zl (Enc.clo _)) | exact zar (Enc.cloL _) | exact zcf (Enc.cloL _) | exact rfl) ?_)) (hS : zp S o.dst r = S' := by dsimp only [zp, List.set]) : zco IT P W ops Q (o :: l) S σ :=
 zb3 hp hg hc hs hok hS k
theorem h_ix {α : Type} [Enc α] {K : List AV → Prop} {t e : TypeId} {x i : Operand} {u : α} {xs : List α} {st : Room} {kd : IntKind} {n : Int} (hu : ix xs n = u) (g : 0 ≤ n ∧ n < xs.length) (k : ahead IT P ops σ K l S') (hd : (o.dst.all fun d => decide (d < S.length)) = true := by exact rfl) (hg : o.guard = none := by exact rfl) (ho : o.op = .indexAddr t x i := by exact rfl) (hx : zcs S x = .list xs.length (Enc.cellsL xs) st := by exact rfl) (hi : zcs S i = .raw (.int kd n) := by exact rfl) (ht : P.underlying t = some (.slice e) := by exact rfl) (hs : zec P e = some (Enc.sz α) := by exact rfl)
 (hS : zp S o.dst (.iptr (Enc.cells u ++ Enc.cellsL (xs.drop (n.toNat + 1)))) = S' := by dsimp only [zp, List.set]) : ahead IT P ops σ K (o :: l) S := by
 subst hu
 exact h_op hd hg (by simp [zcz, ho]) (zkc g ho hx hi ht hs) hS k
theorem zfd {K : List AV → Prop} {f : FuncId} {args args' : List AV} {r : AV} (hp : Pure IT P f args' r) (k : ahead IT P ops σ K l S') (hd : (o.dst.all fun d => decide (d < S.length)) = true := by exact rfl) (hg : o.guard = none := by exact rfl) (hc : zcz S o = some (f, args) := by exact rfl)
 (hs : stripL args = args' := by repeat (first | exact rfl | refine zf (by first | exact zai (zl (Enc.clo _)) | exact zer (Enc.cloL _) | exact zso (Enc.cloL _) Enc.z | exact rfl) ?_))
 (hok : z7 0 args = true := by repeat (first | exact rfl | refine zb (by first | exact zn _ _ (zl (Enc.clo _)) | exact zar (Enc.cloL _) | exact zcf (Enc.cloL _) | exact rfl) ?_)) (hS : zp S o.dst r = S' := by dsimp only [zp, List.set]) : ahead IT P ops σ K (o :: l) S :=
 zo8 hp hd hg hc hs hok hS k
end
theorem strip_t {vs us : List AV} (h : stripL vs = us) : zcm (.tup vs) = .tup us := by rw [zcm, h]
theorem strip_a {vs us : List AV} (h : stripL vs = us) : zcm (.agg vs) = .agg us := by rw [zcm, h]
theorem z5d {k : Nat} {vs : List AV} (h : z7 k vs = true) : za8 k (.tup vs) = true := h
theorem z5x {k : Nat} {vs : List AV} (h : z7 k vs = true) : za8 k (.agg vs) = true := h
theorem zap {P : Program} {fn : Func} {S : List AV} {σ : St} {R : Type} {y r : R} (E : R → AV) (hr : some y = some r) (a : AV) (h : zbr P fn σ S = some a := by exact rfl)
 (hok : za8 0 a = true := by first | exact zn _ _ (zl (Enc.clo _)) | exact zar (Enc.cloL _) | exact zcf (Enc.cloL _) | ((first | refine z5d ?_ | refine z5x ?_); repeat (first | exact rfl | refine zb (by first | exact zn _ _ (zl (Enc.clo _)) | exact zar (Enc.cloL _) | exact zcf (Enc.cloL _) | exact rfl) ?_)))
 (hs : zcm a = E y := by first | exact zer (Enc.cloL _) | exact zso (Enc.cloL _) Enc.z | exact zai (zl (Enc.clo _)) | ((first | refine strip_t ?_ | refine strip_a ?_); repeat (first | exact rfl | refine zf (by first | exact zai (zl (Enc.clo _)) | exact zer (Enc.cloL _) | exact zso (Enc.cloL _) Enc.z | exact rfl) ?_))) : zsf P fn (E r) .ret S σ :=
 zca E hr h hok hs
theorem zbv {IT : IterP} {P : Program} {W : Owed} {k0 : Nat} {α : Type} {c : Bool} {A B : Option α} {r : α} {d : Operand} {x y : Code} {Q : AQ} {S : List AV} {σ : St} (h : (bif c then A else B) = some r) (kt : c = true → A = some r → awp IT P W k0 x Q S σ) (kf : c = false → B = some r → awp IT P W k0 y Q S σ) (hc : zcs S d = .raw (.bool c) := by exact rfl) : awp IT P W k0 (.cond d x y) Q S σ :=
 zu h (fun e h => za4 e hc (kt e h)) (fun e h => za7 e hc (kf e h))
@[reducible] def AV.L {α : Type} [Enc α] (l : List α) : AV := .list l.length (Enc.cellsL l) .none
@[reducible] def AV.F {α : Type} [Enc α] (l : List α) : AV := .list l.length (Enc.cellsL l) .full
@[reducible] def AV.O {α : Type} [Enc α] (l : List α) : AV := zff l.length (Enc.cellsL l)
@[reducible] def AV.A {α : Type} [Enc α] (x : α) : AV := .agg (Enc.cells x)
@[reducible] def St.B (l : List (TypeId × List AV)) : St := ⟨l, [], [], 0, false⟩
theorem zax {P : Program} {f : FuncId} {fn : Func} {c : Code} {args S' : List AV} {r : AV} (n : Nat) (hmix : P.follows .mixedOrders = true) (hf : P.funcs[f]? = some fn) (he : Ent P f) (h : awp (ITP P) P none 0 c (zsf P fn r) S' (St.B [])) (hb : fn.body = some c := by exact rfl) (hn : Nat.sub fn.ntmps args.length = n := by exact rfl) (hS : args ++ List.replicate n (.raw undef) = S' := by dsimp only [List.replicate, List.cons_append, List.nil_append]) : Pure (ITP P) P f args r :=
 zir hmix hf hb he (by unfold zb1; rw [show fn.ntmps - args.length = n from hn, hS]; exact h)
end Go.Ab
set_option linter.unusedSimpArgs false
set_option linter.unusedVariables false
set_option maxRecDepth 100000
set_option maxHeartbeats 4000000
namespace Go.Ab
open Go Go.RowKit Go.Fwd Go.Proofs
def zlj (x : Int) : Option Bool :=
 (some (x != x))
theorem ent94 : Ent Try.prog 94 := enters_of Try.func94 (by kernel_rfl) rfl
theorem zuy (x : Int) (r : Bool) (h : zlj x = some r) : Pure (ITP Try.prog) Try.prog 94 [.raw (.int .u8 x)] (.raw (.bool r)) := by
 unfold zlj at h
 refine zax 5 mix Try.func94 ent94 ?_
 refine zr [.v (.b false)] ?_
 refine zr [.m _, .m _, .v (.b (x != x)), .m _] ?_
 exact zas h
def zpa (x : Int) : Option Bool :=
 (some (x != x))
theorem ent98 : Ent Try.prog 98 := enters_of Try.func98 (by kernel_rfl) rfl
theorem zyc (x : Int) (r : Bool) (h : zpa x = some r) : Pure (ITP Try.prog) Try.prog 98 [.raw (.int .i64 x)] (.raw (.bool r)) := by
 unfold zpa at h
 refine zax 5 mix Try.func98 ent98 ?_
 refine zr [.v (.b false)] ?_
 refine zr [.m _, .m _, .v (.b (x != x)), .m _] ?_
 exact zas h
def zux (x : Int) (y : Int) : Option Int :=
 (zau (zlj x) (fun x1 => (zau (zlj y) (fun x2 => (bif x1 then (bif x2 then (some 0) else (some (-1))) else (bif x2 then (some 1) else (bif (decide (x < y)) then (some (-1)) else (bif (decide (x > y)) then (some 1) else (some 0)))))))))
theorem ent83 : Ent Try.prog 83 := enters_of Try.func83 (by kernel_rfl) rfl
theorem cmp8_sh (x : Int) (y : Int) (r : Int) (h : zux x y = some r) : Pure (ITP Try.prog) Try.prog 83 [.raw (.int .u8 x), .raw (.int .u8 y)] (.raw (.int .i64 r)) := by
 unfold zux at h
 refine zax 18 mix Try.func83 ent83 ?_
 refine zr [.v (.i 0)] ?_
 refine zr [.m _] ?_
 obtain ⟨x1, hx1, h⟩ := zw h
 refine zbq (zuy x x1 hx1) ?_
 refine zad ?_
 refine zr [.m _] ?_
 obtain ⟨x2, hx2, h⟩ := zw h
 refine zbq (zuy y x2 hx2) ?_
 refine zad ?_
 refine ze ?_
 refine zr [.m _] ?_
 refine zbv h (fun hc1 h => ?_) (fun hc1 h => ?_)
 refine ze ?_
 refine zr [.m _] ?_
 refine zbv h (fun hc2 h => ?_) (fun hc2 h => ?_)
 refine zr [.v (.i 0)] ?_
 exact zd4 h
 refine zr [.v (.i (-1))] ?_
 exact zd4 h
 refine ze ?_
 refine zr [.m _] ?_
 refine zbv h (fun hc3 h => ?_) (fun hc3 h => ?_)
 refine zr [.v (.i 1)] ?_
 exact zd4 h
 refine ze ?_
 refine zr [.m _, .m _, .v (.b (decide (x < y)))] ?_
 refine zbv h (fun hc4 h => ?_) (fun hc4 h => ?_)
 refine zr [.v (.i (-1))] ?_
 exact zd4 h
 refine ze ?_
 refine zr [.m _, .m _, .v (.b (decide (x > y)))] ?_
 refine zbv h (fun hc5 h => ?_) (fun hc5 h => ?_)
 refine zr [.v (.i 1)] ?_
 exact zd4 h
 refine zr [.v (.i 0)] ?_
 exact zd4 h
def zl1 (x : Int) (y : Int) : Option Int :=
 (zau (zpa x) (fun x1 => (zau (zpa y) (fun x2 => (bif x1 then (bif x2 then (some 0) else (some (-1))) else (bif x2 then (some 1) else (bif (decide (x < y)) then (some (-1)) else (bif (decide (x > y)) then (some 1) else (some 0)))))))))
theorem ent86 : Ent Try.prog 86 := enters_of Try.func86 (by kernel_rfl) rfl
theorem zy6 (x : Int) (y : Int) (r : Int) (h : zl1 x y = some r) : Pure (ITP Try.prog) Try.prog 86 [.raw (.int .i64 x), .raw (.int .i64 y)] (.raw (.int .i64 r)) := by
 unfold zl1 at h
 refine zax 18 mix Try.func86 ent86 ?_
 refine zr [.v (.i 0)] ?_
 refine zr [.m _] ?_
 obtain ⟨x1, hx1, h⟩ := zw h
 refine zbq (zyc x x1 hx1) ?_
 refine zad ?_
 refine zr [.m _] ?_
 obtain ⟨x2, hx2, h⟩ := zw h
 refine zbq (zyc y x2 hx2) ?_
 refine zad ?_
 refine ze ?_
 refine zr [.m _] ?_
 refine zbv h (fun hc1 h => ?_) (fun hc1 h => ?_)
 refine ze ?_
 refine zr [.m _] ?_
 refine zbv h (fun hc2 h => ?_) (fun hc2 h => ?_)
 refine zr [.v (.i 0)] ?_
 exact zd4 h
 refine zr [.v (.i (-1))] ?_
 exact zd4 h
 refine ze ?_
 refine zr [.m _] ?_
 refine zbv h (fun hc3 h => ?_) (fun hc3 h => ?_)
 refine zr [.v (.i 1)] ?_
 exact zd4 h
 refine ze ?_
 refine zr [.m _, .m _, .v (.b (decide (x < y)))] ?_
 refine zbv h (fun hc4 h => ?_) (fun hc4 h => ?_)
 refine zr [.v (.i (-1))] ?_
 exact zd4 h
 refine ze ?_
 refine zr [.m _, .m _, .v (.b (decide (x > y)))] ?_
 refine zbv h (fun hc5 h => ?_) (fun hc5 h => ?_)
 refine zr [.v (.i 1)] ?_
 exact zd4 h
 refine zr [.v (.i 0)] ?_
 exact zd4 h
def zq7 (t : Tr) : Option Int :=
 (bif (t.mx == (-1)) then (some 9223372036854775807) else (some t.mx))
theorem ent87 : Ent Try.prog 87 := enters_of Try.func87 (by kernel_rfl) rfl
theorem z3t (t : Tr) (r : Int) (h : zq7 t = some r) : Pure (ITP Try.prog) Try.prog 87 [.A (t : Tr)] (.raw (.int .i64 r)) := by
 unfold zq7 at h
 refine zax 7 mix Try.func87 ent87 ?_
 refine ze (zd ?_)
 refine zbj (a := .ptr 0 0) (σ'' := (.B [(30, (Enc.cells (t : Tr)))])) ?_
 refine w_o (a := .i 0) ?_
 refine ze ?_
 refine zr [.v (.ptr 0 6), .v (.i t.mx), .v (.b (t.mx == (-1)))] ?_
 refine zbv h (fun hc1 h => ?_) (fun hc1 h => ?_)
 refine zr [.v (.i 9223372036854775807)] ?_
 exact zd4 h
 refine zr [.v (.ptr 0 6), .v (.i t.mx), .m _] ?_
 exact zd4 h
def zpu (fuel : Nat) (l : (List Int)) : Option Int :=
 (zds (τ := Unit) (zcl (β := Int) (fun s1 => (bif (decide (s1 < (List.length l : Int))) then (chk (0 ≤ s1 ∧ s1 < (List.length l : Int)) (bif ((ix l s1) != 0) then (some (Sum.inr (Sum.inr (ix l s1)))) else (chk (-9223372036854775808 ≤ (s1 + 1) ∧ (s1 + 1) < 9223372036854775808) (some (Sum.inl ((s1 + 1))))))) else (some (Sum.inr (Sum.inl ()))))) fuel (0)) (fun j1 => (some 0)))
theorem ent85 : Ent Try.prog 85 := enters_of Try.func85 (by kernel_rfl) rfl
theorem z6p (fuel : Nat) (l : (List Int)) (r : Int) (h : zpu fuel l = some r) : Pure (ITP Try.prog) Try.prog 85 [.L (l : List Int)] (.raw (.int .i64 r)) := by
 unfold zpu at h
 refine zax 17 mix Try.func85 ent85 ?_
 refine zr [.v (.i 0)] ?_
 refine zr [.v (.i 0)] ?_
 refine za3 h (bz 0 18 262135) (fun j1 => []) (fun j1 => (.B [])) ?_ ?_
 intro or1 h hr1
 refine zr [.m _, .v (.i (List.length l : Int)), .v (.i 0)] ?_
 refine zt ?_
 refine zcp h (bz 0 18 261943) (fun s1 => [(8, .i s1)]) (fun s1 => (.B [])) ?_ ?_
 exact zc1 (bl 18 456)
 intro s1 p1 h
 refine zf9 ?_
 refine zr [.v (.b (decide (s1 < (List.length l : Int))))] ?_
 refine ze ?_
 refine zbv h (fun hc1 h => ?_) (fun hc1 h => ?_)
 refine ze ?_
 refine zt ?_
 refine ze (zd ?_)
 obtain ⟨g1, h⟩ := zh h
 refine w_o (a := .iptr (Enc.cells (ix l s1) ++ Enc.cellsL (List.drop (Int.toNat s1 + 1) l))) (h := zbs (zkc (α := Int) (l := l) g1 rfl rfl rfl rfl rfl)) ?_
 refine w_r [.v (.i (ix l s1)), .m _] ?_
 refine zr [.m _, .m _, .v (.b ((ix l s1) != 0))] ?_
 refine zbv h (fun hc2 h => ?_) (fun hc2 h => ?_)
 refine zr [.m _, .m _] ?_
 refine zac h (fun h => ?_)
 replace h := zo h hr1
 exact zd4 h
 refine zd (k0 := 0) (id := 7) ?_
 obtain ⟨g2, h⟩ := zh h
 refine zv1 g2 ?_
 refine zad ?_
 refine zbn (p := p1) ((s1 + 1)) h ?_
 exact zc1 (bl 18 456)
 refine zac h (fun h => ?_)
 refine zg (o := or1) () h ?_
 exact zc1 (bl 18 8)
 intro j1 h
 refine zf9 ?_
 refine zr [.m _, .m _] ?_
 exact zd4 h
def ze7 (lo : Int) (hi : Int) : Option Bool :=
 (zds (τ := Unit) (bif (decide (lo < 0)) then (some (Sum.inr false)) else (bif (decide (lo > 16)) then (some (Sum.inr false)) else (bif (lo == 1) then (bif (hi == 1) then (some (Sum.inr false)) else (some (Sum.inl ()))) else (some (Sum.inl ()))))) (fun j1 => (bif (hi == (-1)) then (some true) else (bif (decide (hi ≥ 1)) then (bif (decide (hi ≤ 16)) then (some (decide (hi ≥ lo))) else (some false)) else (some false)))))
theorem ent36 : Ent Try.prog 36 := enters_of Try.func36 (by kernel_rfl) rfl
theorem zh1 (lo : Int) (hi : Int) (r : Bool) (h : ze7 lo hi = some r) : Pure (ITP Try.prog) Try.prog 36 [.raw (.int .i64 lo), .raw (.int .i64 hi)] (.raw (.bool r)) := by
 unfold ze7 at h
 refine zax 32 mix Try.func36 ent36 ?_
 refine zr [.v (.b false)] ?_
 refine za3 h (bz 0 34 17179869180) (fun j1 => []) (fun j1 => (.B [])) ?_ ?_
 intro or1 h hr1
 refine zr [.m _, .v (.b (decide (lo < 0)))] ?_
 refine zu h (fun hc1 h => ?_) (fun hc1 h => ?_)
 refine zaw hc1 ?_
 refine w_r [.p, .p, .v (.b true), .m _, .p] ?_
 refine w_r [.p, .p, .p, .p, .p] ?_
 refine w_r [.v (.b true)] ?_
 refine zba rfl ?_
 refine zr [.v (.b false)] ?_
 replace h := zo h hr1
 exact zas h
 refine zaw hc1 ?_
 refine w_r [.m _, .v (.b (decide (lo > 16))), .v (.b (decide (lo > 16)))] ?_
 refine zu h (fun hc2 h => ?_) (fun hc2 h => ?_)
 refine zaw hc2 ?_
 refine w_r [.p, .p, .p, .p, .p] ?_
 refine w_r [.p, .v (.b true)] ?_
 refine zba rfl ?_
 refine zr [.v (.b false)] ?_
 replace h := zo h hr1
 exact zas h
 refine zaw hc2 ?_
 refine w_r [.m _, .v (.b (lo == 1))] ?_
 refine zab rfl rfl ?_
 refine zu h (fun hc3 h => ?_) (fun hc3 h => ?_)
 refine zaw hc3 ?_
 refine w_r [.m _, .v (.b (hi == 1)), .v (.b (hi == 1)), .v (.b (hi == 1))] ?_
 refine zbv h (fun hc4 h => ?_) (fun hc4 h => ?_)
 refine zr [.v (.b false)] ?_
 replace h := zo h hr1
 exact zas h
 refine zg (o := or1) () h ?_
 exact zc1 (bl 34 3)
 refine zaw hc3 ?_
 refine w_r [.p, .p, .v (.b false), .v (.b false)] ?_
 refine zay rfl ?_
 refine zg (o := or1) () h ?_
 exact zc1 (bl 34 3)
 intro j1 h
 refine zf9 ?_
 refine zr [.m _, .v (.b (hi == (-1)))] ?_
 refine zu h (fun hc5 h => ?_) (fun hc5 h => ?_)
 refine zaw hc5 ?_
 refine w_r [.p, .p, .p, .p, .p] ?_
 refine w_r [.p, .p, .p, .p, .p] ?_
 refine w_r [.p, .v (.b true), .m _] ?_
 exact zas h
 refine zaw hc5 ?_
 refine w_r [.m _, .v (.b (decide (hi ≥ 1)))] ?_
 refine zab rfl rfl ?_
 refine zu h (fun hc6 h => ?_) (fun hc6 h => ?_)
 refine zaw hc6 ?_
 refine w_r [.m _, .v (.b (decide (hi ≤ 16))), .v (.b (decide (hi ≤ 16)))] ?_
 refine zab rfl rfl ?_
 refine zu h (fun hc7 h => ?_) (fun hc7 h => ?_)
 refine zaw hc7 ?_
 refine w_r [.m _, .m _, .v (.b (decide (hi ≥ lo))), .v (.b (decide (hi ≥ lo))), .v (.b (decide (hi ≥ lo)))] ?_
 refine w_r [.m _] ?_
 exact zas h
 refine zaw hc7 ?_
 refine w_r [.p, .p, .p, .v (.b false), .v (.b false)] ?_
 refine w_r [.m _] ?_
 exact zas h
 refine zaw hc6 ?_
 refine w_r [.p, .p, .v (.b false), .m _, .p] ?_
 refine w_r [.p, .p, .v (.b false), .v (.b false), .m _] ?_
 exact zas h
def F_opt  : Option Bd :=
 (some (Bd.mk 0 1))
theorem ent52 : Ent Try.prog 52 := enters_of Try.func52 (by kernel_rfl) rfl
theorem zyx  (r : Bd) (h : F_opt  = some r) : Pure (ITP Try.prog) Try.prog 52 [] (.A (r : Bd)) := by
 unfold F_opt at h
 refine zax 2 mix Try.func52 ent52 ?_
 refine ze (zd ?_)
 refine zbj (a := .ptr 0 0) (σ'' := (.B [(62, (Enc.cells ((Bd.mk 0 0) : Bd)))])) ?_
 refine zr [.v (.A ((Bd.mk 0 1) : Bd))] ?_
 refine zbm 2 (.B [(62, (Enc.cells ((Bd.mk 0 1) : Bd)))]) ?_
 exact zap (fun (r : Bd) => .A (r : Bd)) h (.A ((Bd.mk 0 1) : Bd))
def z72  : Option Bd :=
 (some (Bd.mk 0 (-1)))
theorem ent54 : Ent Try.prog 54 := enters_of Try.func54 (by kernel_rfl) rfl
theorem zif  (r : Bd) (h : z72  = some r) : Pure (ITP Try.prog) Try.prog 54 [] (.A (r : Bd)) := by
 unfold z72 at h
 refine zax 2 mix Try.func54 ent54 ?_
 refine ze (zd ?_)
 refine zbj (a := .ptr 0 0) (σ'' := (.B [(62, (Enc.cells ((Bd.mk 0 0) : Bd)))])) ?_
 refine zr [.v (.A ((Bd.mk 0 (-1)) : Bd))] ?_
 refine zbm 2 (.B [(62, (Enc.cells ((Bd.mk 0 (-1)) : Bd)))]) ?_
 exact zap (fun (r : Bd) => .A (r : Bd)) h (.A ((Bd.mk 0 (-1)) : Bd))
def z8c  : Option Bd :=
 (some (Bd.mk 1 (-1)))
theorem ent55 : Ent Try.prog 55 := enters_of Try.func55 (by kernel_rfl) rfl
theorem zie  (r : Bd) (h : z8c  = some r) : Pure (ITP Try.prog) Try.prog 55 [] (.A (r : Bd)) := by
 unfold z8c at h
 refine zax 2 mix Try.func55 ent55 ?_
 refine ze (zd ?_)
 refine zbj (a := .ptr 0 0) (σ'' := (.B [(62, (Enc.cells ((Bd.mk 0 0) : Bd)))])) ?_
 refine zr [.v (.A ((Bd.mk 1 (-1)) : Bd))] ?_
 refine zbm 2 (.B [(62, (Enc.cells ((Bd.mk 1 (-1)) : Bd)))]) ?_
 exact zap (fun (r : Bd) => .A (r : Bd)) h (.A ((Bd.mk 1 (-1)) : Bd))
def F_ofB (t : Tr) : Option Bd :=
 (some (Bd.mk t.mn t.mx))
theorem ent43 : Ent Try.prog 43 := enters_of Try.func43 (by kernel_rfl) rfl
theorem zqc (t : Tr) (r : Bd) (h : F_ofB t = some r) : Pure (ITP Try.prog) Try.prog 43 [.A (t : Tr)] (.A (r : Bd)) := by
 unfold F_ofB at h
 refine zax 7 mix Try.func43 ent43 ?_
 refine ze (zd ?_)
 refine zbj (a := .ptr 0 0) (σ'' := (.B [(30, (Enc.cells (t : Tr)))])) ?_
 refine zbj (a := .ptr 1 0) (σ'' := (.B [(30, (Enc.cells (t : Tr))), (62, (Enc.cells ((Bd.mk 0 0) : Bd)))])) ?_
 refine zr [.v (.ptr 0 5), .v (.i t.mn), .v (.ptr 0 6), .v (.i t.mx), .v (.A ((Bd.mk t.mn t.mx) : Bd))] ?_
 refine zbm 2 (.B [(30, (Enc.cells (t : Tr))), (62, (Enc.cells ((Bd.mk t.mn t.mx) : Bd)))]) ?_
 exact zap (fun (r : Bd) => .A (r : Bd)) h (.A ((Bd.mk t.mn t.mx) : Bd))
def zsi (t : Tr) : Option Tr :=
 (some (Tr.mk 6 (0#256) 0 0 [t]))
theorem ent23 : Ent Try.prog 23 := enters_of Try.func23 (by kernel_rfl) rfl
theorem z2f (t : Tr) (r : Tr) (h : zsi t = some r) : Pure (ITP Try.prog) Try.prog 23 [.A (t : Tr)] (.A (r : Tr)) := by
 unfold zsi at h
 refine zax 5 mix Try.func23 ent23 ?_
 refine ze (zd ?_)
 refine zbj (a := .ptr 0 0) (σ'' := (.B [(30, (Enc.cells (t : Tr)))])) ?_
 refine zbj (a := .ptr 1 0) (σ'' := (.B [(30, (Enc.cells (t : Tr))), (30, [.u 0, .raw (.int .u64 0), .raw (.int .u64 0), .raw (.int .u64 0), .raw (.int .u64 0), .i 0, .i 0, .list 0 [] .full])])) ?_
 refine zr [.v (.A (t : Tr))] ?_
 refine w_o (a := .F ([t] : List Tr)) (h := zbs (zfs (α := Tr) (l := [t]) (cs := Enc.cells (t : Tr) ++ []) rfl (by rw [Enc.cons, Enc.nil]))) ?_
 refine zdz (.A ((Tr.mk 6 (0#256) 0 0 [t]) : Tr)) (a0 := (zbh (Tr.mk 6 (0#256) 0 0 [t]) .full)) rfl rfl rfl (by kernel_rfl) (zi _ _) (by dsimp only [zp, List.set]) ?_
 refine zbm 8 (.B [(30, (Enc.cells (t : Tr))), (30, (Enc.cells ((Tr.mk 6 (0#256) 0 0 [t]) : Tr)))]) ?_
 exact zap (fun (r : Tr) => .A (r : Tr)) h (.A ((Tr.mk 6 (0#256) 0 0 [t]) : Tr))
def z4d (t : Tr) (lo : Int) (hi : Int) : Option Tr :=
 (some (Tr.mk 5 (0#256) lo hi [t]))
theorem ent24 : Ent Try.prog 24 := enters_of Try.func24 (by kernel_rfl) rfl
theorem rep8_sh (t : Tr) (lo : Int) (hi : Int) (r : Tr) (h : z4d t lo hi = some r) : Pure (ITP Try.prog) Try.prog 24 [.A (t : Tr), .raw (.int .i64 lo), .raw (.int .i64 hi)] (.A (r : Tr)) := by
 unfold z4d at h
 refine zax 9 mix Try.func24 ent24 ?_
 refine ze (zd ?_)
 refine zbj (a := .ptr 0 0) (σ'' := (.B [(30, (Enc.cells (t : Tr)))])) ?_
 refine zbj (a := .ptr 1 0) (σ'' := (.B [(30, (Enc.cells (t : Tr))), (30, [.u 0, .raw (.int .u64 0), .raw (.int .u64 0), .raw (.int .u64 0), .raw (.int .u64 0), .i 0, .i 0, .list 0 [] .full])])) ?_
 refine zr [.m _, .m _, .v (.A (t : Tr))] ?_
 refine w_o (a := .F ([t] : List Tr)) (h := zbs (zfs (α := Tr) (l := [t]) (cs := Enc.cells (t : Tr) ++ []) rfl (by rw [Enc.cons, Enc.nil]))) ?_
 refine zdz (.A ((Tr.mk 5 (0#256) lo hi [t]) : Tr)) (a0 := (zbh (Tr.mk 5 (0#256) lo hi [t]) .full)) rfl rfl rfl (by kernel_rfl) (zi _ _) (by dsimp only [zp, List.set]) ?_
 refine zbm 8 (.B [(30, (Enc.cells (t : Tr))), (30, (Enc.cells ((Tr.mk 5 (0#256) lo hi [t]) : Tr)))]) ?_
 exact zap (fun (r : Tr) => .A (r : Tr)) h (.A ((Tr.mk 5 (0#256) lo hi [t]) : Tr))
def zx5 (s : BS) : Option Tr :=
 (bif (decide (s = (0#256))) then (some noneT) else (some (Tr.mk 2 s 0 0 [])))
theorem ent60 : Ent Try.prog 60 := enters_of Try.func60 (by kernel_rfl) rfl
theorem rxof_sh (s : BS) (r : Tr) (h : zx5 s = some r) : Pure (ITP Try.prog) Try.prog 60 [.A (s : BS)] (.A (r : Tr)) := by
 unfold zx5 at h
 refine zax 8 mix Try.func60 ent60 ?_
 refine ze (zd ?_)
 refine zbj (a := .ptr 0 0) (σ'' := (.B [(28, (Enc.cells (s : BS)))])) ?_
 refine zbj (a := .ptr 1 0) (σ'' := (.B [(28, (Enc.cells (s : BS))), (30, [.u 0, .raw (.int .u64 0), .raw (.int .u64 0), .raw (.int .u64 0), .raw (.int .u64 0), .i 0, .i 0, .list 0 [] .full])])) ?_
 refine ze ?_
 refine zr [.v (.A (s : BS)), .v (.A (0#256 : BS))] ?_
 refine zj5 (.b (decide (s = (0#256)))) rfl rfl rfl (zzd s (0#256) rfl rfl rfl) (by dsimp only [zp, List.set]) ?_
 refine zbv h (fun hc1 h => ?_) (fun hc1 h => ?_)
 refine ze (zd ?_)
 refine zdz (.A (noneT : Tr)) (a0 := (zbh noneT .full)) rfl rfl rfl (by kernel_rfl) (zi _ _) (by dsimp only [zp, List.set]) ?_
 refine zbm 8 (.B [(28, (Enc.cells (s : BS))), (30, (Enc.cells (noneT : Tr)))]) ?_
 exact zap (fun (r : Tr) => .A (r : Tr)) h (.A (noneT : Tr))
 refine zr [.v (.A (s : BS))] ?_
 refine zdz (.A ((Tr.mk 2 s 0 0 []) : Tr)) (a0 := (zbh (Tr.mk 2 s 0 0 []) .full)) rfl rfl rfl (by kernel_rfl) (zi _ _) (by dsimp only [zp, List.set]) ?_
 refine zbm 8 (.B [(28, (Enc.cells (s : BS))), (30, (Enc.cells ((Tr.mk 2 s 0 0 []) : Tr)))]) ?_
 exact zap (fun (r : Tr) => .A (r : Tr)) h (.A ((Tr.mk 2 s 0 0 []) : Tr))
def zqv (s : BS) (c : Int) : Option Bool :=
 (chk (0 ≤ (zsb .u8 c 6) ∧ (zsb .u8 c 6) < 4) (chk (0 ≤ (z3b .u8 c 63)) (some ((z3b .u64 (zsb .u64 (wd s (Int.toNat (zsb .u8 c 6))) (z3b .u8 c 63)) 1) == 1))))
theorem ent97 : Ent Try.prog 97 := enters_of Try.func97 (by kernel_rfl) rfl
theorem z3x (s : BS) (c : Int) (r : Bool) (h : zqv s c = some r) : Pure (ITP Try.prog) Try.prog 97 [.A (s : BS), .raw (.int .u8 c)] (.raw (.bool r)) := by
 unfold zqv at h
 refine zax 12 mix Try.func97 ent97 ?_
 refine ze (zd ?_)
 refine zbj (a := .ptr 0 0) (σ'' := (.B [(28, (Enc.cells (s : BS)))])) ?_
 refine w_o (a := .b false) ?_
 refine zr [.m _] ?_
 refine w_o (a := .u (zsb .u8 c 6)) (h := zbs (q_shr (by decide) rfl rfl rfl)) ?_
 obtain ⟨g1, h⟩ := zh h
 refine w_o (a := .ptr 0 (0 + Int.toNat (zsb .u8 c 6) * 1)) (h := zbs (q_idxA g1 rfl rfl rfl rfl rfl)) ?_
 refine w_o (a := .raw (.int .u64 (wd s (Int.toNat (zsb .u8 c 6))))) (h := zbs (q_loadW s (by omega) rfl rfl rfl)) ?_
 refine w_r [.m _, .v (.u (z3b .u8 c 63))] ?_
 obtain ⟨g2, h⟩ := zh h
 refine w_o (a := .raw (.int .u64 (zsb .u64 (wd s (Int.toNat (zsb .u8 c 6))) (z3b .u8 c 63)))) (h := zbs (q_shr g2 rfl rfl rfl)) ?_
 refine w_r [.v (.raw (.int .u64 (z3b .u64 (zsb .u64 (wd s (Int.toNat (zsb .u8 c 6))) (z3b .u8 c 63)) 1))), .v (.b ((z3b .u64 (zsb .u64 (wd s (Int.toNat (zsb .u8 c 6))) (z3b .u8 c 63)) 1) == 1)), .m _] ?_
 exact zas h
end Go.Ab
