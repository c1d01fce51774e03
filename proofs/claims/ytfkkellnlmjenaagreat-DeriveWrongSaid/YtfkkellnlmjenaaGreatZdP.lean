/-
  Ways to walk with the abstract machine.
-/
import Derived.Test.YtfkkellnlmjenaaGreatZdNn
set_option linter.unusedSimpArgs false
set_option linter.unusedVariables false
namespace Go.Ab
open Go Go.RowKit Go.Fwd
section
variable {IT:IterP} {P:Program} {W:Owed} {k0:Nat}
theorem zpk {K K':List AV→St→Prop} {Q Q':AQ} (hK: ∀S σ,K S σ→K' S σ)(h: ∀e S σ,Q e S σ→Q' e S σ): ∀e S σ,zvq K Q e S σ→zvq K' Q' e S σ
 | .normal,S,σ,hq=>hK S σ hq
 | .exit _,S,σ,hq=>h _ S σ hq
 | .ret,S,σ,hq=>h _ S σ hq
theorem zmf {o:Oper} {S:List AV} {σ:St} {K K':AV→St→Prop} (h: ∀a σ,K a σ→K' a σ)(k:zgp IT P W o S σ K):zgp IT P W o S σ K':=by
 unfold zgp at k⊢
 split
 ·rename_i hc;rw[hc] at k;obtain⟨r,σ',k1,k2⟩:=k;exact⟨r,σ',k1,h _ _ k2⟩
 ·rename_i hc
  rw[hc] at k
  simp only at k
  split
  ·rename_i hy;rw[hy] at k;obtain⟨G,row,k0,k1,k2,k3,k4,k5,k6,k7,k8⟩:=k;exact⟨G,row,k0,k1,k2,k3,k4,k5,k6,h _ _ k7,h _ _ k8⟩
  ·rename_i hy;rw[hy] at k
   rcases k with⟨a,σ',k1,k2⟩|⟨n,neg,k1,k2,k3⟩
   ·exact .inl ⟨a,σ',k1,h _ _ k2⟩
   ·exact .inr ⟨n,neg,k1,fun e=>h _ _ (k2 e),h _ _ k3⟩
theorem zjr {ops:Array Oper} {Q Q':List AV→St→Prop} (h: ∀S σ,Q S σ→Q' S σ): ∀(l:List Oper) (S:List AV) (σ:St),zcz IT P W ops Q l S σ→zcz IT P W ops Q' l S σ
 |[],S,σ,k=>h S σ k
 | o::l,S,σ,k=>by
  simp only[zcz] at k⊢
  split
  ·rename_i hg;rw[hg] at k;exact zmf (fun a σ'=>zjr h l _ _) k
  ·rename_i kb b hg
   rw[hg] at k
   obtain⟨c,k1,k2⟩:=k
   refine⟨c,k1,?_⟩
   split
   ·rename_i hc;rw[if_pos hc] at k2;exact zmf (fun a σ'=>zjr h l _ _) k2
   ·rename_i hc;rw[if_neg hc] at k2;exact zjr h l _ _ k2
theorem zik {ops:Array Oper} {Q Q':List AV→St→Prop} (h: ∀S σ,Q S σ→Q' S σ): ∀(k:Nat) (listed:Array Bool) (S:List AV) (σ:St),zru IT P W ops Q k listed S σ→zru IT P W ops Q' k listed S σ
 |0,_,S,σ,k=>⟨k.1,h S σ k.2⟩
 | n +1,listed,S,σ,k=>by
  refine⟨fun he=>h _ _ (k.1 he),fun i hi=> ?_⟩
  have k:=k.2 i hi
  unfold z0l at k⊢
  cases ho:ops[i]? with
  |none=>rw[ho] at k;exact zik h n _ _ _ k
  | some o=>
   rw[ho] at k
   simp only at k⊢
   split
   ·rename_i hg;rw[hg] at k;exact zmf (fun a σ'=>zik h n _ _ _) k
   ·rename_i kb b hg
    rw[hg] at k
    obtain⟨c,k1,k2⟩:=k
    refine⟨c,k1,?_⟩
    split
    ·rename_i hc;rw[if_pos hc] at k2;exact zmf (fun a σ'=>zik h n _ _ _) k2
    ·rename_i hc;rw[if_neg hc] at k2;exact zik h n _ _ _ k2
theorem zqg {o:Oper} {S:List AV} {σ:St} {K K':AV→Prop} (h: ∀a,K a→K' a)(k:zle IT P o S σ K):zle IT P o S σ K':=by
 unfold zle at k⊢
 split
 ·rename_i hc;rw[hc] at k;obtain⟨r,k1,k2,k3⟩:=k;exact⟨r,k1,k2,h _ k3⟩
 ·rename_i hc;rw[hc] at k;obtain⟨a,k1,k2⟩:=k;exact⟨a,k1,h _ k2⟩
theorem zvf {o:Oper} {S:List AV} {σ:St} {K K':AV→Prop} (h: ∀a,K a→K' a)(k:z1e IT P o S σ K):z1e IT P o S σ K':=
 k.imp (zqg h) fun⟨f,args,r,n,k1,k2,k3,k4⟩=>⟨f,args,r,n,k1,k2,k3,h _ k4⟩
theorem zmj {ops:Array Oper} {σ:St} {K K':List AV→Prop} (h: ∀S,K S→K' S): ∀(l:List Oper) (S:List AV),ahead IT P ops σ K l S→ahead IT P ops σ K' l S
 |[],S,k=>h S k
 | o::l,S,k=>by
  simp only[ahead] at k⊢
  refine⟨k.1,?_⟩
  have k:=k.2
  split
  ·rename_i hg;rw[hg] at k;exact zvf (fun a=>zmj h l _) k
  ·rename_i kb b hg
   rw[hg] at k
   obtain⟨c,k1,k2⟩:=k
   refine⟨c,k1,?_⟩
   split
   ·rename_i hc;rw[if_pos hc] at k2;exact zvf (fun a=>zmj h l _) k2
   ·rename_i hc;rw[if_neg hc] at k2;exact zmj h l _ k2
theorem zio {ops:Array Oper} {σ:St} {K K':List AV→Pend→Prop} (h: ∀S ps,K S ps→K' S ps): ∀(l:List Oper) (S:List AV) (ps:Pend),zfk IT P ops σ K l S ps→zfk IT P ops σ K' l S ps
 |[],S,ps,k=>h S ps k
 | o ::l,S,ps,k=>by
  simp only[zfk] at k⊢
  refine⟨k.1,k.2.1,?_⟩
  rcases k.2.2 with⟨hg,t,d,z,k1,k2,k3,k4⟩|k
  ·exact .inl ⟨hg,t,d,z,k1,k2,k3,zio h l _ _ k4⟩
  ·right
   split
   ·rename_i hg;rw[hg] at k;exact zqg (fun a=>zio h l _ _) k
   ·rename_i kb b hg
    rw[hg] at k
    obtain⟨c,k1,k2⟩:=k
    refine⟨c,k1,?_⟩
    split
    ·rename_i hc;rw[if_pos hc] at k2;exact zqg (fun a=>zio h l _ _) k2
    ·rename_i hc;rw[if_neg hc] at k2;exact zio h l _ _ k2
def WMono (F:AQ→List AV→St→Prop):Prop:= ∀ {Q Q':AQ},(∀e S σ,Q e S σ→Q' e S σ)→ ∀S σ,F Q S σ→F Q' S σ
theorem zqr {F:AQ→List AV→St→Prop} {n0:Nat} (hF:WMono F) {Q Q':AQ} (h: ∀e S σ,Q e S σ→Q' e S σ): ∀(m:Nat) (S:List AV) (σ:St),zqc F Q n0 m S σ→zqc F Q' n0 m S σ
 |0,S,σ,k=>k
 |m+1,S,σ,⟨S',σ',k1,k2⟩=>⟨S',σ',k1,hF (zpk (zqr hF h m) h) _ _ k2⟩
theorem znb {Fa Fb:Nat→AQ→List AV→St→Prop} {ps:Array Tmp} {S:List AV} {n0:Nat} (hFa: ∀k,WMono (Fa k))(hFb: ∀k,WMono (Fb k)) {Q Q':AQ} (h: ∀e S σ,Q e S σ→Q' e S σ): ∀(xs:List (List AV)) (σ:St),zgv Fa Fb ps S Q n0 xs σ→zgv Fa Fb ps S Q' n0 xs σ
 |[],σ,k=>h _ _ _ k
 | x::xs,σ,k=>by
  simp only[zgv] at k⊢
  refine hFa n0 ?_ _ _ k
  intro e S1 σ1 hq
  cases e with
  | normal=>
   refine hFb _ ?_ _ _ hq
   intro e2 S2 σ2 hq2
   cases e2 with
   |normal=>exact⟨hq2.1,znb hFa hFb h xs _ hq2.2⟩
   |exit id=>exact⟨hq2.1,h _ _ _ hq2.2⟩
   |ret=>exact⟨hq2.1,h _ _ _ hq2.2⟩
  |exit id=>exact hq
  |ret=>exact hq
theorem zea {k0:Nat}: ∀(c:Code) {Q Q':AQ},(∀e S σ,Q e S σ→Q' e S σ)→ ∀(S:List AV) (σ:St),awp IT P W k0 c Q S σ→awp IT P W k0 c Q' S σ
 | .skip,Q,Q',h,S,σ,k=>h _ S σ k
 | .seq x y,Q,Q',h,S,σ,k=>zea x (zpk (fun S σ ⟨S',σ',k1,k2⟩=>⟨S',σ',k1,zea y h _ _ k2⟩) h) S σ k
 | .cond c x y,Q,Q',h,S,σ,⟨t,k1,k2⟩=>⟨t,k1,by
  split
  ·rename_i ht;rw[if_pos ht] at k2;exact zea x h _ _ k2
  ·rename_i ht;rw[if_neg ht] at k2;exact zea y h _ _ k2⟩
 | .block id x,Q,Q',h,S,σ,k=>zea x (fun e S σ hq=>by
  cases e with
  |normal=>exact h _ _ _ hq
  |ret=>exact h _ _ _ hq
  | exit j=>
   simp only[zoe] at hq⊢
   split
   ·rename_i hj;rw[if_pos hj] at hq;exact h _ _ _ hq
   ·rename_i hj;rw[if_neg hj] at hq;exact h _ _ _ hq) S σ k
 | .loop x,Q,Q',h,S,σ,⟨m,k⟩=>⟨m,zqr (fun hq=>zea x hq) h m S σ k⟩
 | .exit id,Q,Q',h,S,σ,k=>h _ S σ k
 | .ret,Q,Q',h,S,σ,k=>h _ S σ k
 | .region _ ops false,Q,Q',h,S,σ,k=>zjr (h .normal) _ _ _ k
 | .region _ ops true,Q,Q',h,S,σ,.inl ⟨n,k1,k2,k3⟩=> .inl ⟨n,k1,k2,zmj (fun S'=>zjr (h .normal) _ _ _) _ _ k3⟩
 | .region _ ops true,Q,Q',h,S,σ,.inr (.inl ⟨n,k1,k2,k3⟩)=> .inr (.inl ⟨n,k1,k2,zio (fun S' ps=>zjr (h .normal) _ _ _) _ _ _ k3⟩)
 | .region _ ops true,Q,Q',h,S,σ,.inr (.inr k)=> .inr (.inr (zik (h .normal) _ _ _ _ k))
 | .rangeFunc f ps asg body,Q,Q',h,S,σ,.inl ⟨xs,k1,k0,k2,k3,k4⟩=> .inl ⟨xs,k1,k0,k2,k3,znb (Fa:=fun k=>awp IT P W k asg) (Fb:=fun k=>awp IT P W k body) (fun k=>fun hq=>zea asg hq) (fun k=>fun hq=>zea body hq) h xs σ k4⟩
 | .rangeFunc f ps asg body,Q,Q',h,S,σ,.inr ⟨g,n,t,cs,xs,S',k1,k2,k3,k4,k5,k6,k7,k8,k9,q1,q2,q3,q4⟩=> .inr ⟨g,n,t,cs,xs,S',k1,k2,k3,k4,k5,k6,k7,k8,k9,q1,q2,q3,znb (Fa:=fun k=>awp IT P W k asg) (Fb:=fun k=>awp IT P W k body) (fun k=>fun hq=>zea asg hq) (fun k=>fun hq=>zea body hq) h xs _ q4⟩
 | .scope x,Q,Q',h,S,σ,k=>zea x h S σ k
 | .label _,Q,Q',h,S,σ,k=>h _ S σ k
 | .goto _,_,_,_,_,_,k=>k.elim
 | .refuse _,_,_,_,_,_,k=>k.elim
theorem zf {x y:Code} {Q:AQ} {S:List AV} {σ:St} (h:awp IT P W k0 x (zvq (awp IT P W k0 y Q) Q) S σ):awp IT P W k0 (.seq x y) Q S σ:=
 zea x (zpk (fun S σ k=>⟨S,σ,Wk.refl _ _ _,k⟩) fun _ _ _ k=>k) S σ h
def to (n0:Nat)(S':List AV)(σ':St)(Q:AQ):AQ
 | .normal,S,σ=>Wk n0 S σ S' σ'
 |e,S,σ=>Q e S σ
theorem zb {id:Nat} {ops:Array Oper} {Q:AQ} {S:List AV} {σ:St} (h:zcz IT P W ops (Q .normal) ops.toList S σ):awp IT P W k0 (.region id ops false) Q S σ:=h
theorem zce {c:Operand} {x y:Code} {Q:AQ} {S:List AV} {σ:St} (hc:zeg S c= .raw (.bool true))(h:awp IT P W k0 x Q S σ):awp IT P W k0 (.cond c x y) Q S σ:=⟨true,hc,h⟩
theorem zcl {c:Operand} {x y:Code} {Q:AQ} {S:List AV} {σ:St} (hc:zeg S c= .raw (.bool false))(h:awp IT P W k0 y Q S σ):awp IT P W k0 (.cond c x y) Q S σ:=⟨false,hc,h⟩
theorem w_label {id:Nat} {Q:AQ} {S:List AV} {σ:St} (h:Q .normal S σ):awp IT P W k0 (.label id) Q S σ:=h
theorem qgv {x:Code} {Q:AQ} {S:List AV} {σ:St} (h:awp IT P W k0 x Q S σ):awp IT P W k0 (.scope x) Q S σ:=h
theorem zp {id:Nat} {x:Code} {Q:AQ} {S:List AV} {σ:St} (h:awp IT P W k0 x (zoe id Q) S σ):awp IT P W k0 (.block id x) Q S σ:=h
theorem zbm {ops:Array Oper} {Q:List AV→St→Prop} {o:Oper} {l:List Oper} {S S':List AV} {σ σ':St} {a:AV} (hg:o.guard=none)(hc:zdo S o=none)(hy:zei S o=none)(h:aop P (zeg S) σ o=some (a,σ'))(hS:zh S o.dst a=S')
 (k:zcz IT P W ops Q l S' σ'):zcz IT P W ops Q (o::l) S σ:=by
 simp only[zcz,hg,zgp,hc,hy]
 exact .inl ⟨a,σ',.inl h,by rw[hS];exact k⟩
theorem qar {ops:Array Oper} {Q:List AV→St→Prop} {o:Oper} {l:List Oper} {S S':List AV} {σ:St} (a:AV)(hg:o.guard=none)(hc:zdo S o=none)(hy:zei S o=none)(h:zoq P (zeg S) o a)(hS:zh S o.dst a=S')
 (k:zcz IT P W ops Q l S' σ):zcz IT P W ops Q (o::l) S σ:=by
 simp only[zcz,hg,zgp,hc,hy]
 exact .inl ⟨a,σ,.inr (.inl ⟨rfl,h⟩),by rw[hS];exact k⟩
theorem w_call {ops:Array Oper} {Q:List AV→St→Prop} {o:Oper} {l:List Oper} {S S':List AV} {σ:St} {f:FuncId} {args:List AV} {r:AV} (hp:Pure IT P f (stripL args) r)(hg:o.guard=none)(hc:zdo S o=some (f,args))(hok:zaa 0 args=true)(hS:zh S o.dst r=S')
 (k:zcz IT P W ops Q l S' σ):zcz IT P W ops Q (o::l) S σ:=by
 simp only[zcz,hg,zgp,hc]
 exact⟨r,σ,.inr (.inl ⟨rfl,hok,hp⟩),by rw[hS];exact k⟩
theorem w_callf {ops:Array Oper} {Q:List AV→St→Prop} {o:Oper} {l:List Oper} {S S':List AV} {σ:St} {f:FuncId} {args args':List AV} {r:AV} (n:Nat)(hp:Pure IT P f args' r)(hg:o.guard=none)(hc:zdo S o=some (f,args))(ha:zbp (frz σ.boxes n) args=args')(hraw:zul r=true)(hS:zh S o.dst r=S')
 (k:zcz IT P W ops Q l S' σ):zcz IT P W ops Q (o::l) S σ:=by
 simp only[zcz,hg,zgp,hc]
 exact⟨r,σ,.inr (.inr (.inl ⟨rfl,hraw,n,by rw[ha];exact hp⟩)),by rw[hS];exact k⟩
theorem w_yield {ops:Array Oper} {Q:List AV→St→Prop} {o:Oper} {l:List Oper} {S:List AV} {σ:St} {n:Nat} {args row:List AV} {rows:List (List AV)} (hg:o.guard=none)(hc:zdo S o=none)(hy:zei S o=some (n,args)) {G:Gen} (hW:W=some G)(hGl:G.l=n)(hGr:G.rows=rows)(hr:rows[σ.out]? =some row)(hs:stripL args=row)(hok:zaa 0 args=true)(hni:zco args=true)(hst:σ.stop=false)
 (k1:zcz IT P W ops Q l (zh S o.dst (.raw (.bool true))) {σ with out:=σ.out+1}) (k2:zcz IT P W ops Q l (zh S o.dst (.raw (.bool false))) {σ with stop:=true}):zcz IT P W ops Q (o::l) S σ:=by
 simp only[zcz,hg,zgp,hc,hy]
 exact⟨G,row,hW,hGl,by rw[hGr];exact hr,hs,hok,hni,hst,k1,k2⟩
theorem zah {c:Code} {Q:AQ} {S S':List AV} {σ σ':St} (hS:S=S')(hσ:σ=σ')(h:awp IT P W k0 c Q S' σ'):awp IT P W k0 c Q S σ:=by subst hS hσ;exact h
theorem zfp {ops:Array Oper} {Q:List AV→St→Prop} {o:Oper} {l:List Oper} {S S':List AV} {σ σ' σ'':St} {a:AV} (hg:o.guard=none)(hc:zdo S o=none)(hy:zei S o=none)(h:aop P (zeg S) σ o=some (a,σ'))(hS:zh S o.dst a=S')(hσ:σ'=σ'')
 (k:zcz IT P W ops Q l S' σ''):zcz IT P W ops Q (o::l) S σ:=by
 subst hσ
 exact zbm hg hc hy h hS k
theorem zgs {ops:Array Oper} {Q:List AV→St→Prop} {o:Oper} {l:List Oper} {S S':List AV} {σ σ' σ'':St} {a:AV} (hg:o.guard=none)(hc:zdo S o=none)(hy:zei S o=none)(h:ztl P (zeg S) σ o=some (a,σ'))(hS:zh S o.dst a=S')(hσ:σ'=σ'')
 (k:zcz IT P W ops Q l S' σ''):zcz IT P W ops Q (o::l) S σ:=by
 subst hσ
 simp only[zcz,hg,zgp,hc,hy]
 exact .inl ⟨a,σ',.inr (.inr (.inl h)),by rw[hS];exact k⟩
theorem w_nil {ops:Array Oper} {Q:List AV→St→Prop} {o:Oper} {l:List Oper} {S S1 S2:List AV} {σ:St} (n:Nat)(neg:Bool)(hg:o.guard=none)(hc:zdo S o=none)(hy:zei S o=none)(h:zyu P (zeg S) o n neg)
 (h1:zh S o.dst (.raw (.bool (!neg)))=S1) (h2:zh S o.dst (.raw (.bool neg))=S2) (k1:n=0→zcz IT P W ops Q l S1 σ) (k2:zcz IT P W ops Q l S2 σ):zcz IT P W ops Q (o::l) S σ:=by
 simp only[zcz,hg,zgp,hc,hy]
 exact .inr ⟨n,neg,.inl h,fun e=>by rw[h1];exact k1 e,by rw[h2];exact k2⟩
theorem z3i {ops:Array Oper} {Q:List AV→St→Prop} {o:Oper} {l:List Oper} {S S':List AV} {σ σ':St} {f:FuncId} {args:List AV} {r:AV} (hp:Snd IT P f args σ r σ')(hg:o.guard=none)(hc:zdo S o=some (f,args))(ho:σ'.out=σ.out∧σ'.stop=σ.stop)(hS:zh S o.dst r=S')
 (k:zcz IT P W ops Q l S' σ'):zcz IT P W ops Q (o::l) S σ:=by
 simp only[zcz,hg,zgp,hc]
 exact⟨r,σ',.inl ⟨hp,ho⟩,by rw[hS];exact k⟩
theorem zv {ops:Array Oper} {Q:List AV→St→Prop} {o:Oper} {l:List Oper} {S S':List AV} {σ:St} {kb:Nat} {b:Bool} {c:Option Bool} (hg:o.guard=some (kb,b))(hk:zgw ops S kb=some c)(hcb:c≠some b)(hS:zh S o.dst (.raw undef)=S')(k:zcz IT P W ops Q l S' σ):zcz IT P W ops Q (o::l) S σ:=by
 simp only[zcz,hg]
 exact⟨c,hk,by rw[if_neg hcb,hS];exact k⟩
theorem zaf {ops:Array Oper} {Q:List AV→St→Prop} {o:Oper} {l:List Oper} {S:List AV} {σ:St} {kb:Nat} {b:Bool} (hg:o.guard=some (kb,b))(hk:zgw ops S kb=some (some b))(k:zcz IT P W ops Q ({o with guard:=none}::l) S σ):zcz IT P W ops Q (o::l) S σ:=by
 simp only[zcz,hg]
 refine⟨some b,hk,?_⟩
 rw[if_pos rfl]
 have e:zgp IT P W {o with guard:=none} S σ=zgp IT P W o S σ:=rfl
 simp only[zcz] at k
 rw[e] at k
 exact k
end
theorem znr {x:Int} (h1: -9223372036854775808≤x)(h2:x<9223372036854775808):IntKind.i64.wrap x=x:=by
 simp only[IntKind.wrap,IntKind.bits,IntKind.signed]
 simp
 omega
end Go.Ab
