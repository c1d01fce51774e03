import Derived.Test.YtnoccnalocdldaaDoorZdNn
set_option linter.all false
namespace Go.Ab
open Go Go.RowKit Go.Fwd
section
variable {IT:IterP} {P:Program} {W:Owed} {k0:Nat}
theorem zpm {K K':List AV→St→Prop} {Q Q':AQ} (hK: ∀S σ,K S σ→K' S σ)(h: ∀e S σ,Q e S σ→Q' e S σ): ∀e S σ,ztz K Q e S σ→ztz K' Q' e S σ
 | .normal,S,σ,hq=>hK S σ hq
 | .exit _,S,σ,hq=>h _ S σ hq
 | .ret,S,σ,hq=>h _ S σ hq
theorem zls {o:Oper} {S:List AV} {σ:St} {K K':AV→St→Prop} (h: ∀a σ,K a σ→K' a σ)(k:zfx IT P W o S σ K):zfx IT P W o S σ K':=by
 unfold zfx at k⊢
 split
 ·rename_i hc;rw[hc] at k;obtain⟨r,σ',k1,k2⟩:=k;exact⟨r,σ',k1,h _ _ k2⟩
 ·rename_i hc
  rw[hc] at k
  simp only at k
  split
  ·rename_i hy;rw[hy] at k;obtain⟨G,row,k0,k1,k2,k3,k4,k5,k6,k7,k8⟩:=k;exact⟨G,row,k0,k1,k2,k3,k4,k5,k6,h _ _ k7,h _ _ k8⟩
  ·rename_i hy;rw[hy] at k
   rcases k with⟨a,σ',k1,k2⟩|⟨n,neg,k1,k2,k3⟩
   ·exact .inl ⟨a,σ',k1,h _ _ k2⟩
   ·exact .inr ⟨n,neg,k1,fun e=>h _ _ (k2 e),h _ _ k3⟩
theorem zjh {ops:Array Oper} {Q Q':List AV→St→Prop} (h: ∀S σ,Q S σ→Q' S σ): ∀(l:List Oper) (S:List AV) (σ:St),zcq IT P W ops Q l S σ→zcq IT P W ops Q' l S σ
 |[],S,σ,k=>h S σ k
 | o::l,S,σ,k=>by
  simp only[zcq] at k⊢
  split
  ·rename_i hg;rw[hg] at k;exact zls (fun a σ'=>zjh h l _ _) k
  ·rename_i kb b hg
   rw[hg] at k
   obtain⟨c,k1,k2⟩:=k
   refine⟨c,k1,?_⟩
   split
   ·rename_i hc;rw[if_pos hc] at k2;exact zls (fun a σ'=>zjh h l _ _) k2
   ·rename_i hc;rw[if_neg hc] at k2;exact zjh h l _ _ k2
theorem zgq {ops:Array Oper} {Q Q':List AV→St→Prop} (h: ∀S σ,Q S σ→Q' S σ): ∀(k:Nat) (listed:Array Bool) (S:List AV) (σ:St),zqt IT P W ops Q k listed S σ→zqt IT P W ops Q' k listed S σ
 |0,_,S,σ,k=>⟨k.1,h S σ k.2⟩
 | n +1,listed,S,σ,k=>by
  refine⟨fun he=>h _ _ (k.1 he),fun i hi=> ?_⟩
  have k:=k.2 i hi
  unfold zvu at k⊢
  cases ho:ops[i]? with
  |none=>rw[ho] at k;exact zgq h n _ _ _ k
  | some o=>
   rw[ho] at k
   simp only at k⊢
   split
   ·rename_i hg;rw[hg] at k;exact zls (fun a σ'=>zgq h n _ _ _) k
   ·rename_i kb b hg
    rw[hg] at k
    obtain⟨c,k1,k2⟩:=k
    refine⟨c,k1,?_⟩
    split
    ·rename_i hc;rw[if_pos hc] at k2;exact zls (fun a σ'=>zgq h n _ _ _) k2
    ·rename_i hc;rw[if_neg hc] at k2;exact zgq h n _ _ _ k2
theorem zpy {o:Oper} {S:List AV} {σ:St} {K K':AV→Prop} (h: ∀a,K a→K' a)(k:zhv IT P o S σ K):zhv IT P o S σ K':=by
 unfold zhv at k⊢
 split
 ·rename_i hc;rw[hc] at k;obtain⟨r,k1,k2,k3⟩:=k;exact⟨r,k1,k2,h _ k3⟩
 ·rename_i hc;rw[hc] at k;obtain⟨a,k1,k2⟩:=k;exact⟨a,k1,h _ k2⟩
theorem ztk {o:Oper} {S:List AV} {σ:St} {K K':AV→Prop} (h: ∀a,K a→K' a)(k:zrr IT P o S σ K):zrr IT P o S σ K':=
 k.imp (zpy h) fun⟨f,args,r,n,k1,k2,k3,k4⟩=>⟨f,args,r,n,k1,k2,k3,h _ k4⟩
theorem zly {ops:Array Oper} {σ:St} {K K':List AV→Prop} (h: ∀S,K S→K' S): ∀(l:List Oper) (S:List AV),zen IT P ops σ K l S→zen IT P ops σ K' l S
 |[],S,k=>h S k
 | o::l,S,k=>by
  simp only[zen] at k⊢
  refine⟨k.1,?_⟩
  have k:=k.2
  split
  ·rename_i hg;rw[hg] at k;exact ztk (fun a=>zly h l _) k
  ·rename_i kb b hg
   rw[hg] at k
   obtain⟨c,k1,k2⟩:=k
   refine⟨c,k1,?_⟩
   split
   ·rename_i hc;rw[if_pos hc] at k2;exact ztk (fun a=>zly h l _) k2
   ·rename_i hc;rw[if_neg hc] at k2;exact zly h l _ k2
theorem zhl {ops:Array Oper} {σ:St} {K K':List AV→Pend→Prop} (h: ∀S ps,K S ps→K' S ps): ∀(l:List Oper) (S:List AV) (ps:Pend),zfe IT P ops σ K l S ps→zfe IT P ops σ K' l S ps
 |[],S,ps,k=>h S ps k
 | o ::l,S,ps,k=>by
  simp only[zfe] at k⊢
  refine⟨k.1,k.2.1,?_⟩
  rcases k.2.2 with⟨hg,t,d,z,k1,k2,k3,k4⟩|k
  ·exact .inl ⟨hg,t,d,z,k1,k2,k3,zhl h l _ _ k4⟩
  ·right
   split
   ·rename_i hg;rw[hg] at k;exact zpy (fun a=>zhl h l _ _) k
   ·rename_i kb b hg
    rw[hg] at k
    obtain⟨c,k1,k2⟩:=k
    refine⟨c,k1,?_⟩
    split
    ·rename_i hc;rw[if_pos hc] at k2;exact zpy (fun a=>zhl h l _ _) k2
    ·rename_i hc;rw[if_neg hc] at k2;exact zhl h l _ _ k2
def WMono (F:AQ→List AV→St→Prop):Prop:= ∀ {Q Q':AQ},(∀e S σ,Q e S σ→Q' e S σ)→ ∀S σ,F Q S σ→F Q' S σ
theorem zqb {F:AQ→List AV→St→Prop} {n0:Nat} (hF:WMono F) {Q Q':AQ} (h: ∀e S σ,Q e S σ→Q' e S σ): ∀(m:Nat) (S:List AV) (σ:St),zpo F Q n0 m S σ→zpo F Q' n0 m S σ
 |0,S,σ,k=>k
 |m+1,S,σ,⟨S',σ',k1,k2⟩=>⟨S',σ',k1,hF (zpm (zqb hF h m) h) _ _ k2⟩
theorem zjm {Fa Fb:Nat→AQ→List AV→St→Prop} {ps:Array Tmp} {S:List AV} {n0:Nat} (hFa: ∀k,WMono (Fa k))(hFb: ∀k,WMono (Fb k)) {Q Q':AQ} (h: ∀e S σ,Q e S σ→Q' e S σ): ∀(xs:List (List AV)) (σ:St),zev Fa Fb ps S Q n0 xs σ→zev Fa Fb ps S Q' n0 xs σ
 |[],σ,k=>h _ _ _ k
 | x::xs,σ,k=>by
  simp only[zev] at k⊢
  refine hFa n0 ?_ _ _ k
  intro e S1 σ1 hq
  cases e with
  | normal=>
   refine hFb _ ?_ _ _ hq
   intro e2 S2 σ2 hq2
   cases e2 with
   |normal=>exact⟨hq2.1,zjm hFa hFb h xs _ hq2.2⟩
   |exit id=>exact⟨hq2.1,h _ _ _ hq2.2⟩
   |ret=>exact⟨hq2.1,h _ _ _ hq2.2⟩
  |exit id=>exact hq
  |ret=>exact hq
theorem zzs {m0 k0:Nat} {K K':List AV→St→Prop} {S:List AV} {σ:St} (h: ∀S σ,K S σ→K' S σ):z6z m0 k0 K S σ→z6z m0 k0 K' S σ:=
 Or.imp (h _ _) fun⟨m,n,fs,js,d,S',h1,h2,h3,h4,h5⟩=>⟨m,n,fs,js,d,S',h1,h2,h3,h4,h _ _ h5⟩
theorem zcf {k0:Nat}: ∀(c:Code) {Q Q':AQ},(∀e S σ,Q e S σ→Q' e S σ)→ ∀(S:List AV) (σ:St),awp IT P W k0 c Q S σ→awp IT P W k0 c Q' S σ
 | .skip,Q,Q',h,S,σ,k=>h _ S σ k
 | .seq x y,Q,Q',h,S,σ,.inl k=> .inl (zcf x (zpm (fun S σ ⟨S',σ',k1,k2⟩=>⟨S',σ',k1,zcf y h _ _ k2⟩) h) S σ k)
 | .seq x y,Q,Q',h,S,σ,.inr ⟨hW,S',σ',k1,k2⟩=> .inr ⟨hW,S',σ',k1,zcf y h _ _ k2⟩
 | .cond c x y,Q,Q',h,S,σ,⟨t,k1,k2⟩=>⟨t,k1,by
  split
  ·rename_i ht;rw[if_pos ht] at k2;exact zcf x h _ _ k2
  ·rename_i ht;rw[if_neg ht] at k2;exact zcf y h _ _ k2⟩
 | .block id x,Q,Q',h,S,σ,.inr ⟨hW,S',σ',k1,k2⟩=> .inr ⟨hW,S',σ',k1,h .normal _ _ k2⟩
 | .block id x,Q,Q',h,S,σ,.inl k=> .inl<|zcf x (fun e S σ hq=>by
  cases e with
  |normal=>exact zzs (h .normal) hq
  |ret=>exact h _ _ _ hq
  | exit j=>
   simp only[zil] at hq⊢
   split
   ·rename_i hj;rw[if_pos hj] at hq;exact zzs (h .normal) hq
   ·rename_i hj;rw[if_neg hj] at hq;exact h _ _ _ hq) S σ k
 | .loop x,Q,Q',h,S,σ,⟨m,k⟩=>⟨m,zqb (fun hq=>zcf x hq) h m S σ k⟩
 | .exit id,Q,Q',h,S,σ,k=>h _ S σ k
 | .ret,Q,Q',h,S,σ,k=>h _ S σ k
 | .region _ ops false,Q,Q',h,S,σ,k=>zjh (h .normal) _ _ _ k
 | .region _ ops true,Q,Q',h,S,σ,.inl ⟨n,k1,k2,k3⟩=> .inl ⟨n,k1,k2,zly (fun S'=>zjh (h .normal) _ _ _) _ _ k3⟩
 | .region _ ops true,Q,Q',h,S,σ,.inr (.inl ⟨n,k1,k2,k3⟩)=> .inr (.inl ⟨n,k1,k2,zhl (fun S' ps=>zjh (h .normal) _ _ _) _ _ _ k3⟩)
 | .region _ ops true,Q,Q',h,S,σ,.inr (.inr (.inl k))=> .inr (.inr (.inl (zgq (h .normal) _ _ _ _ k)))
 | .region _ ops true,Q,Q',h,S,σ,.inr (.inr (.inr (.inl ⟨sg,vs,E,k1,k2,k3,k4,k5⟩)))=> .inr (.inr (.inr (.inl ⟨sg,vs,E,k1,k2,k3,k4,h .normal _ _ k5⟩)))
 | .region _ ops true,Q,Q',h,S,σ,.inr (.inr (.inr (.inr ⟨k0,S',σ',k1,k2⟩)))=> .inr (.inr (.inr (.inr ⟨k0,S',σ',k1,h .normal _ _ k2⟩)))
 | .rangeFunc f ps asg body,Q,Q',h,S,σ,.inl ⟨xs,k1,k0,k2,k3,k4⟩=> .inl ⟨xs,k1,k0,k2,k3,zjm (Fa:=fun k=>awp IT P W k asg) (Fb:=fun k=>awp IT P W k body) (fun k=>fun hq=>zcf asg hq) (fun k=>fun hq=>zcf body hq) h xs σ k4⟩
 | .rangeFunc f ps asg body,Q,Q',h,S,σ,.inr (.inl ⟨g,n,t,cs,xs,S',k1,k2,k3,k4,k5,k6,k7,k8,k9,q1,q2,q3,q4⟩)=> .inr (.inl ⟨g,n,t,cs,xs,S',k1,k2,k3,k4,k5,k6,k7,k8,k9,q1,q2,q3,zjm (Fa:=fun k=>awp IT P W k asg) (Fb:=fun k=>awp IT P W k body) (fun k=>fun hq=>zcf asg hq) (fun k=>fun hq=>zcf body hq) h xs _ q4⟩)
 | .rangeFunc f ps asg body,Q,Q',h,S,σ,.inr (.inr ⟨g,caps,js,hs,m,bs,bs',xs,S',σ1,k1,k2,k3,k4,k5,k6,k7,k8,k9,q⟩)=> .inr (.inr ⟨g,caps,js,hs,m,bs,bs',xs,S',σ1,k1,k2,k3,k4,k5,k6,k7,k8,k9,
  zjm (Fa:=fun k=>awp IT P W k asg) (Fb:=fun k=>awp IT P W k body) (fun k=>fun hq=>zcf asg hq) (fun k=>fun hq=>zcf body hq) (fun e S1 σ1 hq=>by cases e with|normal=>exact h .normal _ _ hq|exit id=>exact hq|ret=>exact hq) xs _ q⟩)
 | .scope x,Q,Q',h,S,σ,k=>zcf x h S σ k
 | .label _,Q,Q',h,S,σ,k=>h _ S σ k
 | .goto _,_,_,_,_,_,k=>k.elim
 | .refuse _,_,_,_,_,_,k=>k.elim
theorem zi {x y:Code} {Q:AQ} {S:List AV} {σ:St} (h:awp IT P W k0 x (ztz (awp IT P W k0 y Q) Q) S σ):awp IT P W k0 (.seq x y) Q S σ:=
 .inl<|zcf x (zpm (fun S σ k=>⟨S,σ,Wk.refl _ _ _,k⟩) fun _ _ _ k=>k) S σ h
def to (n0:Nat)(S':List AV)(σ':St)(Q:AQ):AQ
 | .normal,S,σ=>Wk n0 S σ S' σ'
 |e,S,σ=>Q e S σ
theorem zc {id:Nat} {ops:Array Oper} {Q:AQ} {S:List AV} {σ:St} (h:zcq IT P W ops (Q .normal) ops.toList S σ):awp IT P W k0 (.region id ops false) Q S σ:=h
theorem zbf {c:Operand} {x y:Code} {Q:AQ} {S:List AV} {σ:St} (hc:zcc S c= .raw (.bool true))(h:awp IT P W k0 x Q S σ):awp IT P W k0 (.cond c x y) Q S σ:=⟨true,hc,h⟩
theorem zax {c:Operand} {x y:Code} {Q:AQ} {S:List AV} {σ:St} (hc:zcc S c= .raw (.bool false))(h:awp IT P W k0 y Q S σ):awp IT P W k0 (.cond c x y) Q S σ:=⟨false,hc,h⟩
theorem qad {id:Nat} {Q:AQ} {S:List AV} {σ:St} (h:Q .normal S σ):awp IT P W k0 (.label id) Q S σ:=h
theorem qdk {x:Code} {Q:AQ} {S:List AV} {σ:St} (h:awp IT P W k0 x Q S σ):awp IT P W k0 (.scope x) Q S σ:=h
theorem z4g {id:Nat} {x:Code} {Q:AQ} {S:List AV} {σ:St} (h:awp IT P W k0 x (zil σ.lens.length k0 id Q) S σ):awp IT P W k0 (.block id x) Q S σ:= .inl h
theorem zag {id:Nat} {x:Code} {Q:AQ} {S:List AV} {σ:St} (h:awp IT P W k0 x (qjv id Q) S σ):awp IT P W k0 (.block id x) Q S σ:=
 .inl<|zcf x (fun e S1 σ1 hq=>by
  cases e with
  |normal=>exact .inl hq
  |ret=>exact hq
  | exit j=>
   simp only[qjv,zil] at hq⊢
   split
   ·rename_i hj;rw[if_pos hj] at hq;exact .inl hq
   ·rename_i hj;rw[if_neg hj] at hq;exact hq) S σ h
theorem zhw {ops:Array Oper} {Q:List AV→St→Prop} {o:Oper} {l:List Oper} {S S':List AV} {σ σ':St} {a:AV} (hg:o.guard=none)(hc:zdj S o=none)(hy:zdt S o=none)(h:aop P (zcc S) σ o=some (a,σ'))(hS:zy S o.dst a=S')
 (k:zcq IT P W ops Q l S' σ'):zcq IT P W ops Q (o::l) S σ:=by
 simp only[zcq,hg,zfx,hc,hy]
 exact .inl ⟨a,σ',.inl h,by rw[hS];exact k⟩
theorem zua {ops:Array Oper} {Q:List AV→St→Prop} {o:Oper} {l:List Oper} {S S':List AV} {σ:St} (a:AV)(hg:o.guard=none)(hc:zdj S o=none)(hy:zdt S o=none)(h:zla P (zcc S) o a)(hS:zy S o.dst a=S')
 (k:zcq IT P W ops Q l S' σ):zcq IT P W ops Q (o::l) S σ:=by
 simp only[zcq,hg,zfx,hc,hy]
 exact .inl ⟨a,σ,.inr (.inl ⟨rfl,h⟩),by rw[hS];exact k⟩
theorem w_call {ops:Array Oper} {Q:List AV→St→Prop} {o:Oper} {l:List Oper} {S S':List AV} {σ:St} {f:FuncId} {args:List AV} {r:AV} (hp:Pure IT P f (stripL args) r)(hg:o.guard=none)(hc:zdj S o=some (f,args))(hok:zad 0 args=true)(hS:zy S o.dst r=S')
 (k:zcq IT P W ops Q l S' σ):zcq IT P W ops Q (o::l) S σ:=by
 simp only[zcq,hg,zfx,hc]
 exact⟨r,σ,.inr (.inl ⟨rfl,hok,hp⟩),by rw[hS];exact k⟩
theorem w_callf {ops:Array Oper} {Q:List AV→St→Prop} {o:Oper} {l:List Oper} {S S':List AV} {σ:St} {f:FuncId} {args args':List AV} {r:AV} (n:Nat)(hp:Pure IT P f args' r)(hg:o.guard=none)(hc:zdj S o=some (f,args))(ha:zbr (frz σ.boxes n) args=args')(hraw:zsl r=true)(hS:zy S o.dst r=S')
 (k:zcq IT P W ops Q l S' σ):zcq IT P W ops Q (o::l) S σ:=by
 simp only[zcq,hg,zfx,hc]
 exact⟨r,σ,.inr (.inr (.inl ⟨rfl,hraw,n,by rw[ha];exact hp⟩)),by rw[hS];exact k⟩
theorem w_yield {ops:Array Oper} {Q:List AV→St→Prop} {o:Oper} {l:List Oper} {S:List AV} {σ:St} {n:Nat} {args row:List AV} {rows:List (List AV)} (hg:o.guard=none)(hc:zdj S o=none)(hy:zdt S o=some (n,args)) {G:Gen} (hW:W=some G)(hGl:G.l=n)(hGr:G.rows=rows)(hr:rows[σ.out]? =some row)(hs:stripL args=row)(hok:zad 0 args=true)(hni:zcj args=true)(hst:σ.stop=false)
 (k1:zcq IT P W ops Q l (zy S o.dst (.raw (.bool true))) {σ with out:=σ.out+1}) (k2:zcq IT P W ops Q l (zy S o.dst (.raw (.bool false))) {σ with stop:=true}):zcq IT P W ops Q (o::l) S σ:=by
 simp only[zcq,hg,zfx,hc,hy]
 exact⟨G,row,hW,hGl,by rw[hGr];exact hr,hs,hok,hni,hst,k1,k2⟩
theorem zbj {c:Code} {Q:AQ} {S S':List AV} {σ σ':St} (hS:S=S')(hσ:σ=σ')(h:awp IT P W k0 c Q S' σ'):awp IT P W k0 c Q S σ:=by subst hS hσ;exact h
theorem zfs {ops:Array Oper} {Q:List AV→St→Prop} {o:Oper} {l:List Oper} {S S':List AV} {σ σ' σ'':St} {a:AV} (hg:o.guard=none)(hc:zdj S o=none)(hy:zdt S o=none)(h:aop P (zcc S) σ o=some (a,σ'))(hS:zy S o.dst a=S')(hσ:σ'=σ'')
 (k:zcq IT P W ops Q l S' σ''):zcq IT P W ops Q (o::l) S σ:=by
 subst hσ
 exact zhw hg hc hy h hS k
theorem z8k {ops:Array Oper} {Q:List AV→St→Prop} {o:Oper} {l:List Oper} {S S':List AV} {σ σ' σ'':St} {a:AV} (hg:o.guard=none)(hc:zdj S o=none)(hy:zdt S o=none)(h:zvw P (zcc S) σ o=some (a,σ'))(hS:zy S o.dst a=S')(hσ:σ'=σ'')
 (k:zcq IT P W ops Q l S' σ''):zcq IT P W ops Q (o::l) S σ:=by
 subst hσ
 simp only[zcq,hg,zfx,hc,hy]
 exact .inl ⟨a,σ',.inr (.inr (.inl h)),by rw[hS];exact k⟩
theorem w_nil {ops:Array Oper} {Q:List AV→St→Prop} {o:Oper} {l:List Oper} {S S1 S2:List AV} {σ:St} (n:Nat)(neg:Bool)(hg:o.guard=none)(hc:zdj S o=none)(hy:zdt S o=none)(h:zxd P (zcc S) o n neg)
 (h1:zy S o.dst (.raw (.bool (!neg)))=S1) (h2:zy S o.dst (.raw (.bool neg))=S2) (k1:n=0→zcq IT P W ops Q l S1 σ) (k2:zcq IT P W ops Q l S2 σ):zcq IT P W ops Q (o::l) S σ:=by
 simp only[zcq,hg,zfx,hc,hy]
 exact .inr ⟨n,neg,.inl h,fun e=>by rw[h1];exact k1 e,by rw[h2];exact k2⟩
theorem zgm {ops:Array Oper} {Q:List AV→St→Prop} {o:Oper} {l:List Oper} {S S':List AV} {σ σ':St} {f:FuncId} {args:List AV} {r:AV} (hp:Snd IT P f args σ r σ')(hg:o.guard=none)(hc:zdj S o=some (f,args))(ho:σ'.out=σ.out∧σ'.stop=σ.stop)(hS:zy S o.dst r=S')
 (k:zcq IT P W ops Q l S' σ'):zcq IT P W ops Q (o::l) S σ:=by
 simp only[zcq,hg,zfx,hc]
 exact⟨r,σ',.inl ⟨hp,ho⟩,by rw[hS];exact k⟩
theorem z1h {ops:Array Oper} {Q:List AV→St→Prop} {o:Oper} {l:List Oper} {S S':List AV} {σ:St} {kb:Nat} {b:Bool} {c:Option Bool} (hg:o.guard=some (kb,b))(hk:zdp ops S kb=some c)(hcb:c≠some b)(hS:zy S o.dst (.raw undef)=S')(k:zcq IT P W ops Q l S' σ):zcq IT P W ops Q (o::l) S σ:=by
 simp only[zcq,hg]
 exact⟨c,hk,by rw[if_neg hcb,hS];exact k⟩
theorem zan {ops:Array Oper} {Q:List AV→St→Prop} {o:Oper} {l:List Oper} {S:List AV} {σ:St} {kb:Nat} {b:Bool} (hg:o.guard=some (kb,b))(hk:zdp ops S kb=some (some b))(k:zcq IT P W ops Q ({o with guard:=none}::l) S σ):zcq IT P W ops Q (o::l) S σ:=by
 simp only[zcq,hg]
 refine⟨some b,hk,?_⟩
 rw[if_pos rfl]
 have e:zfx IT P W {o with guard:=none} S σ=zfx IT P W o S σ:=rfl
 simp only[zcq] at k
 rw[e] at k
 exact k
end
theorem z8y {n0:Nat} {S S':List AV} {σ σ':St} (s:Nat) {t:TypeId} {cs:List AV} (hb:σ.boxes[s]? =some (t,cs))(h:zaf σ.lens.length (mvz s σ.boxes.length) S=S')(hσ:σ'=qja s t cs σ):Wk n0 S σ S' σ':=
 .one<| .inr (.inr (.inr (.inr ⟨s,t,cs,hb,h▸Fg.refl _,hσ⟩)))
theorem zlk {x:Int} (h1: -9223372036854775808≤x)(h2:x<9223372036854775808):IntKind.i64.wrap x=x:=by
 simp only[IntKind.wrap,IntKind.bits,IntKind.signed]
 simp
 omega
end Go.Ab
