/-
  Steps of a walk, the shortest: calls, starts, changes of the view.
-/
import Derived.Test.YtfkkellnlmjenaaGreatZeEn
set_option linter.unusedSimpArgs false
set_option linter.unusedVariables false
namespace Go.Ab
open Go Go.RowKit Go.Fwd
section
variable {IT:IterP} {P:Program} {W:Owed} {k0:Nat}
theorem zwy {ops0:Array Oper} {FIN0:List AV→St→Prop} {k:Nat} {l:Array Bool} {S:List AV} {σ:St} (h: ∀ops,ops=ops0→ ∀FIN:List AV→St→Prop,(∀S σ,FIN0 S σ→FIN S σ)→ ∀S0,S0=S→zsu IT P W ops FIN k l S0 σ):zsu IT P W ops0 FIN0 k l S σ:=h ops0 rfl FIN0 (fun _ _ h=>h) S rfl
theorem aopAt_s {ops ops0:Array Oper} {K:List AV→St→Prop} {i:Nat} {o:Oper} {S:List AV} {σ:St} (hops:ops=ops0)(ho:ops0[i]? =some o)(h:zdd IT P W ops K [o] S σ):z0e IT P W ops K i S σ:=by
 subst hops
 unfold z0e
 rw[ho]
 simp only[zdd] at h
 exact h
theorem aany_n {ops ops0:Array Oper} {FIN:List AV→St→Prop} {k:Nat} {bs:List Bool} {S:List AV} {σ:St} (hops:ops=ops0)(is:List Nat)(hr:Region.ready .any ops0 ⟨bs⟩=is)(hne:is≠[])(h: ∀i∈is,z0e IT P W ops (fun S σ=>zsu IT P W ops FIN k ⟨bs.set i true⟩ S σ) i S σ):zsu IT P W ops FIN (k+1) ⟨bs⟩ S σ:=by
 subst hops
 refine⟨fun e=>absurd (hr.symm.trans e) hne,fun i hi=> ?_⟩
 have h1:=h i (hr▸hi)
 have e:(⟨bs⟩:Array Bool).setIfInBounds i true=⟨bs.set i true⟩:=by
  apply Array.ext'
  simp
 rw[e];exact h1
theorem aany_0 {ops ops0:Array Oper} {FIN:List AV→St→Prop} {bs:List Bool} {S:List AV} {σ:St} (hops:ops=ops0)(hr:Region.ready .any ops0 ⟨bs⟩=[])(h:FIN S σ):zsu IT P W ops FIN 0 ⟨bs⟩ S σ:=by
 subst hops
 exact⟨hr,h⟩
theorem z6e {p:Nat→Prop}: ∀i∈([]:List Nat),p i:=fun i h=>by cases h
theorem all_cons {p:Nat→Prop} {a:Nat} {l:List Nat} (h:p a)(t: ∀i∈l,p i): ∀i∈a::l,p i:=fun i hi=>by
 rcases List.mem_cons.1 hi with rfl|hi
 ·exact h
 ·exact t i hi
end
section
variable {P:Program} {ρ:Operand→AV} {σ:St} {o:Oper} {α:Type} [Enc α]
theorem Enc.atK {l:List α} {i:Int} (g:0≤i∧i<l.length)(k:Nat):(Enc.cellsL l).drop (0+i.toNat*Enc.sz α+k)=(Enc.cells (ix l i)++Enc.cellsL (l.drop (i.toNat+1))).drop k:=by
 rw[Nat.zero_add,←List.drop_drop,Enc.at g]
theorem zfb {t e:TypeId} {x i:Operand} {s n:Nat} {f:Bool} {k:IntKind} {j:Int} (g:0≤j∧j<n)(ho:o.op= .indexAddr t x i)(hx:ρ x= .bsl s 0 n (Enc.sz α) f)(hi:ρ i= .raw (.int k j))(hu:P.underlying t=some (.slice e))(hs:zds P e=some (Enc.sz α)):
 qop P ρ σ o=some (.ptr s (0+j.toNat*Enc.sz α)):=qbe ho hx hi hu hs g
theorem zeg {l:List α} {i:Int} {k s:Nat} {te t:TypeId} {x:Operand} {a:AV} (g:0≤i∧i<l.length)(ho:o.op= .load t x)(hx:ρ x= .ptr s (0+i.toNat*Enc.sz α+k))(hb:σ.boxes[s]? =some (te,Enc.cellsL l))(hr:rd P t ((Enc.cells (ix l i)++Enc.cellsL (l.drop (i.toNat+1))).drop k)=some a):
 qop P ρ σ o=some a:=by
 rw[←Enc.atK g] at hr
 simp only[qop,ho,hx,zqn,hb,hr]
theorem Enc.putK {l:List α} {i:Int} {x:α} {k n:Nat} {cs:List AV} (g:0≤i∧i<l.length)(hl:cs.length=n)(hk:k+n≤Enc.sz α)(hx:Enc.cells x=(Enc.cells (ix l i)).take k++cs++(Enc.cells (ix l i)).drop (k+n)):
 (Enc.cellsL l).take (0+i.toNat*Enc.sz α+k)++cs++(Enc.cellsL l).drop (0+i.toNat*Enc.sz α+k+n)=Enc.cellsL (l.set i.toNat x):=by
 have hi:i.toNat<l.length:=by omega
 have hset:l.set i.toNat x=l.take i.toNat++[x]++l.drop (i.toNat+1):=by
  rw[List.set_eq_take_append_cons_drop,if_pos hi];simp
 have hlen:=Enc.len (ix l i)
 have e1:(Enc.cellsL l).drop (i.toNat*Enc.sz α)=Enc.cells (ix l i)++Enc.cellsL (l.drop (i.toNat+1)):=Enc.at g
 have e2:(Enc.cellsL l).take (0+i.toNat*Enc.sz α+k)=Enc.cellsL (l.take i.toNat)++(Enc.cells (ix l i)).take k:=by
  rw[Nat.zero_add,List.take_add,Enc.take,e1,List.take_append_of_le_length (by omega)]
 have e3:(Enc.cellsL l).drop (0+i.toNat*Enc.sz α+k+n)=(Enc.cells (ix l i)).drop (k+n)++Enc.cellsL (l.drop (i.toNat+1)):=by
  rw[Nat.zero_add,Nat.add_assoc,←List.drop_drop,e1,List.drop_append_of_le_length (by omega)]
 rw[e2,e3,hset,Enc.app,Enc.app,Enc.cons,Enc.nil,hx]
 simp
theorem zhu {l:List α} {i:Int} {k s n:Nat} {te t:TypeId} {x y:Operand} {v:AV} (x':α)(g:0≤i∧i<l.length)(ho:o.op= .store t x y)(hx:ρ x= .ptr s (0+i.toNat*Enc.sz α+k))(hy:ρ y=v)(hb:σ.boxes[s]? =some (te,Enc.cellsL l))(hn:zds P t=some n)(hc:zlc v=true)(hl:(cellsOf v).length=n)(h0:0<n)(hk:k+n≤Enc.sz α)
 (hx':Enc.cells x'=(Enc.cells (ix l i)).take k++cellsOf v++(Enc.cells (ix l i)).drop (k+n)):aop P ρ σ o=some (.raw undef,{σ with boxes:=σ.boxes.set s (te,Enc.cellsL (l.set i.toNat x'))}):=by
 have hfit:0+i.toNat*Enc.sz α+k+n≤(Enc.cellsL l).length:=by
  rw[Enc.lenL]
  have h1:i.toNat+1≤l.length:=by omega
  have h2:=Nat.mul_le_mul_right (Enc.sz α) h1
  rw[Nat.succ_mul] at h2
  omega
 rw[zmo (n:=n) ho hx hy hb hn ⟨hc,hl,hfit,h0⟩,Enc.putK g hl hk hx']
theorem zys {c:Call} {x y:Operand} {t e:TypeId} {i:TypeInfo} {z:Value} {s n by':Nat} {l r:List α} {st:Room} (hn:l.length=n∧0<n∧0<r.length∧(n+r.length)*by'≤140737488355328)(ho:o.op= .call c)(hc:c.callee= .builtin .append)(ha:c.args.toList=[x,y])(ht:c.argTypes.toList=[t,t])
 (hx:ρ x= .bsl s 0 n (Enc.sz α) false) (hy:ρ y= .list r.length (Enc.cellsL r) st) (hb:σ.boxes[s]? =some (e,Enc.cellsL l)) (hu:P.underlying t=some (.slice e)) (hi:P.info? e=some i) (hz:i.zero=some z) (hsz:i.size=Enc.sz α) (hzs:z.cells.size=Enc.sz α) (hby:i.bytes=by'∧0<by'):
 zzh P ρ σ o=some (.bsl σ.boxes.length 0 (n+r.length) (Enc.sz α) false,{σ with boxes:=σ.boxes.set s (e,[])++[(e,Enc.cellsL (l++r))]}):=by
 obtain⟨h1,h2,h3,h4⟩:=hn
 have hp:=Enc.pos (α:=α)
 have hsrc:qkt P σ i.size t t (ρ y)=some (r.length,Enc.cellsL r):=by rw[hy];exact zob ⟨rfl,by rw[Enc.lenL,hsz],by omega⟩
 have hmax:n+r.length≤maxLen:=by
  have h5:n+r.length≤(n+r.length)*by':=Nat.le_mul_of_pos_right _ hby.2
  have h6:140737488355328≤maxLen:=by decide
  omega
 have hcond:Enc.sz α=i.size∧n+r.length≤maxLen∧(n+r.length)*i.bytes≤140737488355328∧0+n*Enc.sz α≤(Enc.cellsL l).length:=⟨hsz.symm,hmax,by rw[hby.1];exact h4,by rw[Enc.lenL,h1];omega⟩
 have hcond2:(0:Nat)=0∧n*Enc.sz α=(Enc.cellsL l).length∧e=e∧0<n:=⟨rfl,by rw[Enc.lenL,h1],rfl,h2⟩
 have hcond0:0<i.size∧z.cells.size=i.size∧0<r.length:=⟨by omega,by omega,h3⟩
 have key:z0y P σ t t (ρ x) (ρ y)=some (.bsl σ.boxes.length 0 (n+r.length) (Enc.sz α) false,{σ with boxes:=σ.boxes.set s (e,[])++[(e,Enc.cellsL (l++r))]}):=by
  rw[z0y]
  simp only[hu,hi,hz,hsrc,if_pos hcond0,hx,hb,if_pos hcond,Bool.false_eq_true,if_false,Enc.app]
  rw[if_pos ⟨trivial,hcond2.2.1,trivial,h2⟩]
 have hnn:zug (ρ x)=false:=by rw[hx];rfl
 simp only[zzh,ho,hc,ha,ht,key,hnn,Bool.false_eq_true,if_false]
end
section
variable {m:Nat} {g:FZ}
theorem zdx:fgM [] (zbt m g [])=[]:=by rw[zbt];rfl
theorem zc {a b:AV} {S S':List AV} {ms:List Bool} (h:zma m g a=b)(r:fgM ms (zbt m g S)=S'):fgM (true::ms) (zbt m g (a::S))=b::S':=by
 rw[zbt];show(bif true then zma m g a else .top)::_=_;rw[r,h];rfl
theorem zaf {a:AV} {S S':List AV} {ms:List Bool} (r:fgM ms (zbt m g S)=S'):fgM (false::ms) (zbt m g (a::S))= .top::S':=by
 rw[zbt];show(bif false then zma m g a else .top)::_=_;rw[r];rfl
theorem zd {a b c d e f x y:AV} {S S':List AV} {ms:List Bool} (r:fgM ms (zbt m g S)=S'):fgM (false::false::false::false::false::false::false::false::ms) (zbt m g (a::b::c::d::e::f::x::y::S))= .top:: .top:: .top:: .top:: .top:: .top:: .top:: .top::S':=zaf (zaf (zaf (zaf (zaf (zaf (zaf (zaf r)))))))
theorem zyc:zbt m g []=[]:=by rw[zbt]
theorem zbr {a b:AV} {l l':List AV} (h:zma m g a=b)(r:zbt m g l=l'):zbt m g (a::l)=b::l':=by rw[zbt,h,r]
theorem z4m:zbk g []=[]:=by rw[zbk]
theorem zpk {a b:AV} {l l':List AV} (h:zfp g a=b)(r:zbk g l=l'):zbk g (a::l)=b::l':=by rw[zbk,h,r]
theorem z5z {a:AV} (h:clo a=true):zfp g a=a:=by
 have:=zdc g [a] (by rw[cloL,h];rfl)
 rw[zbk] at this
 exact(List.cons.inj this).1
theorem kz_bsl {α:Type} [Enc α] {bs:List (TypeId×List AV)} {js:List Nat} {d s n:Nat} {f:Bool} {t:TypeId} {l:List α} (hn:l.length=n)(hb:bs[s]? =some (t,Enc.cellsL l))(hp:zfr 0 [] js s=none):zma m (kz bs m 0 [] js (d+1)) (.bsl s 0 n (Enc.sz α) f)= .list l.length (Enc.cellsL l) .none:=by
 subst hn
 rw[zma]
 simp only[kz,hp,hb,Option.map_some,Option.getD_some,List.drop_zero,zah _ _ _ (Enc.cloL l)]
 rw[List.take_of_length_le (by rw[Enc.lenL];exact Nat.le_refl _)]
theorem qeh {α:Type} [Enc α] {bs:List (TypeId×List AV)} {d s n:Nat} {f:Bool} {t:TypeId} {l:List α} (hn:l.length=n)(hb:bs[s]? =some (t,Enc.cellsL l)):zfp (frz bs (d+1)) (.bsl s 0 n (Enc.sz α) f)= .list l.length (Enc.cellsL l) .none:=by
 subst hn
 rw[zfp]
 simp only[frz,hb,Option.map_some,Option.getD_some,List.drop_zero,zdc _ _ (Enc.cloL l)]
 rw[List.take_of_length_le (by rw[Enc.lenL];exact Nat.le_refl _)]
theorem zco {bs:List (TypeId×List AV)} {n d:Nat} {fs js0:List Nat}:(([]:List Nat).map fun j=>((bs[j]?).map fun b=>(b.1,zbt m (kz bs m n fs js0 d) b.2)).getD (0,[.bad]))=[]:=rfl
theorem zag {bs:List (TypeId×List AV)} {n d j:Nat} {fs js js0:List Nat} {t:TypeId} {cs cs':List AV} {r:List (TypeId×List AV)} (hb:bs[j]? =some (t,cs))(hc:zbt m (kz bs m n fs js0 d) cs=cs')(hr:(js.map fun j=>((bs[j]?).map fun b=>(b.1,zbt m (kz bs m n fs js0 d) b.2)).getD (0,[.bad]))=r):
 ((j::js).map fun j=>((bs[j]?).map fun b=>(b.1,zbt m (kz bs m n fs js0 d) b.2)).getD (0,[.bad]))=(t,cs')::r:=by
 rw[List.map_cons,hr,hb]
 simp only[Option.map_some,Option.getD_some,hc]
theorem zdu {σ σ':St} {d:Nat} {js:List Nat} {bs':List (TypeId×List AV)} (h:(js.map fun j=>((σ.boxes[j]?).map fun b=>(b.1,zbt m (kz σ.boxes m 0 [] js d) b.2)).getD (0,[.bad]))=bs')(h2:{σ with boxes:=bs',lens:=σ.lens.take m,elems:=σ.elems.take m}=σ'):zmt σ m 0 [] js d=σ':=by
 subst h2
 unfold zmt zej
 rw[h]
 rfl
end
section
variable {P:Program} {ρ:Operand→AV} {σ:St} {o:Oper} {α:Type} [Enc α]
theorem qjs {t e:TypeId} {x i:Operand} {s n:Nat} {f:Bool} {k:IntKind} {j:Int} (g:0≤j∧j<n)(ho:o.op= .slice t x (some i) none none)(hx:ρ x= .bsl s 0 n (Enc.sz α) f)(hi:ρ i= .raw (.int k j))(hu:P.underlying t=some (.slice e))(hs:zds P e=some (Enc.sz α)):
 qop P ρ σ o=some (.bsl s (j.toNat*Enc.sz α) (n-j.toNat) (Enc.sz α) f):=by
 have h4:zfg n (some (.raw (.int k j))) none none=some (j.toNat,n,false):=by
  have c:0≤j∧j≤(n:Int):=by omega
  simp only[zfg,zix,if_pos c]
 have hlt:j.toNat<n:=by omega
 simp only[qop,ho,hx,hi,Option.map_some,Option.map_none,zlf,hu,hs,h4,if_true,if_pos hlt,Nat.zero_add]
 simp
theorem q_bslH {t e:TypeId} {x i:Operand} {s n:Nat} {f:Bool} {k:IntKind} {j:Int} (g:0<j∧j≤n)(ho:o.op= .slice t x none (some i) none)(hx:ρ x= .bsl s 0 n (Enc.sz α) f)(hi:ρ i= .raw (.int k j))(hu:P.underlying t=some (.slice e))(hs:zds P e=some (Enc.sz α)):
 qop P ρ σ o=some (.bsl s 0 j.toNat (Enc.sz α) (f&&(j.toNat==n))):=by
 have h4:zfg n none (some (.raw (.int k j))) none=some (0,j.toNat,false):=by
  have c:0≤j∧j≤(n:Int):=by omega
  simp only[zfg,zix,if_pos c]
 have hlt:0<j.toNat:=by omega
 simp only[qop,ho,hx,hi,Option.map_some,Option.map_none,zlf,hu,hs,h4,if_true,if_pos hlt,Nat.zero_add,Nat.zero_mul,Nat.sub_zero]
 simp
end
theorem z9h {IT:IterP} {P:Program} {W:Owed} {k0:Nat} {id:Nat} {ops:Array Oper} {Q:AQ} {S:List AV} {σ:St} (S1:List AV)(σ1:St)(h:zsu IT P W ops (fun S σ=>S=S1∧σ=σ1) ops.size (Array.replicate ops.size false) S σ)(hrest:Q .normal S1 σ1):awp IT P W k0 (.region id ops true) Q S σ:=
 .inr (.inr (zka (fun S σ hw=>by obtain⟨rfl,rfl⟩:=hw;exact hrest) _ _ _ _ h))
def bl:Nat→Nat→List Bool
 |0,_=>[]
 |n+1,m=>(m%2==1)::bl n (m/2)
section
variable {IT:IterP} {P:Program} {W:Owed} {ops ops0:Array Oper} {Q:List AV→St→Prop} {K:List AV→Prop} {o:Oper} {l:List Oper} {S S':List AV} {σ σ' σ'':St} {a:AV} {kb:Nat} {b:Bool} {c:Option Bool}
theorem w_o (k:zdd IT P W ops Q l S' σ')(hg:o.guard=none:=by exact rfl)(hc:zee S o=none:=by exact rfl)(hy:zek S o=none:=by exact rfl)(h:aop P (zes S) σ o=some (a,σ'):=by exact rfl)(hS:zab S o.dst a=S':=by dsimp only[zab,List.set]):zdd IT P W ops Q (o::l) S σ:=
 zwa hg hc hy h hS k
theorem zbs (k:zdd IT P W ops Q l S' σ'')(hg:o.guard=none:=by exact rfl)(hc:zee S o=none:=by exact rfl)(hy:zek S o=none:=by exact rfl)(h:aop P (zes S) σ o=some (a,σ'):=by exact rfl)(hS:zab S o.dst a=S':=by dsimp only[zab,List.set])(hσ:σ'=σ'':=by exact rfl):zdd IT P W ops Q (o::l) S σ:=
 znz hg hc hy h hS hσ k
theorem zgk (k:zdd IT P W ops Q l S' σ)(hg:o.guard=some (kb,b):=by exact rfl)(hk:zfx ops S kb=some c:=by exact rfl)(hcb:c≠some b:=by decide)(hS:zab S o.dst (.raw undef)=S':=by dsimp only[zab,List.set]):zdd IT P W ops Q (o::l) S σ:=
 qpy hg hk hcb hS k
theorem h_o (k:ahead IT P ops σ K l S')(hd:(o.dst.all fun d=>decide (d<S.length))=true:=by exact rfl)(hg:o.guard=none:=by exact rfl)(hc:zee S o=none:=by exact rfl)(h:qop P (zes S) σ o=some a:=by exact rfl)(hS:zab S o.dst a=S':=by dsimp only[zab,List.set]):ahead IT P ops σ K (o::l) S:=
 h_op hd hg hc h hS k
theorem zfj (k:ahead IT P ops σ K l S')(hd:(o.dst.all fun d=>decide (d<S.length))=true:=by exact rfl)(hg:o.guard=some (kb,b):=by exact rfl)(hk:zfx ops S kb=some c:=by exact rfl)(hcb:c≠some b:=by decide)(hS:zab S o.dst (.raw undef)=S':=by dsimp only[zab,List.set]):ahead IT P ops σ K (o::l) S:=
 h_pass hd hg hk hcb hS k
end
theorem zqp {IT:IterP} {P:Program} {W:Owed} {ops ops0:Array Oper} {K:List AV→St→Prop} {i:Nat} {o:Oper} {S:List AV} {σ:St} (hops:ops=ops0)(ho:ops0.toList[i]? =some o)(h:zdd IT P W ops K [o] S σ):z0e IT P W ops K i S σ:=
 aopAt_s hops (by rw[←ho,Array.getElem?_toList]) h
def upS:List (Option (Nat×AV))→List Bool→List (Nat×AV)
 |some q::ps,true::bs=>q::upS ps bs
 |none::ps,true::bs=>upS ps bs
 |_::ps,false::bs=>upS ps bs
 |_,_=>[]
def aN (IT:IterP)(P:Program)(W:Owed)(ops:Array Oper)(FIN:List AV→St→Prop)(S0:List AV)(ps:List (Option (Nat×AV)))(n k m:Nat)(σ:St):Prop:=
 zsu IT P W ops FIN k ⟨bl n m⟩ (zz S0 (upS ps (bl n m))) σ
section
variable {IT:IterP} {P:Program} {W:Owed} {ops ops0:Array Oper} {FIN:List AV→St→Prop} {S0 L S:List AV} {ps PL:List (Option (Nat×AV))} {n k m m':Nat} {σ:St}
theorem aN_n (hops:ops=ops0)(hS:S0=L)(hps:ps=PL)(is:List Nat)
 (h: ∀i∈is,z0e IT P W ops (fun S σ=>zsu IT P W ops FIN k ⟨(bl n m).set i true⟩ S σ) i S σ)
 (hr:Region.ready .any ops0 ⟨bl n m⟩=is:=by kernel_rfl) (hne:is≠[]:=by decide) (e:zz L (upS PL (bl n m))=S:=by dsimp only[zz,List.foldl,List.set,upS,bl,Nat.reduceMod,Nat.reduceDiv,Nat.reduceBEq]):aN IT P W ops FIN S0 ps n (k+1) m σ:=by
 subst hS hps e
 exact aany_n hops is hr hne h
theorem aN_0 (hops:ops=ops0)(hS:S0=L)(hps:ps=PL)(h:FIN S σ)(hr:Region.ready .any ops0 ⟨bl n m⟩=[]:=by kernel_rfl)(e:zz L (upS PL (bl n m))=S:=by dsimp only[zz,List.foldl,List.set,upS,bl,Nat.reduceMod,Nat.reduceDiv,Nat.reduceBEq]):aN IT P W ops FIN S0 ps n 0 m σ:=by
 subst hS hps e
 exact aany_0 hops hr h
theorem zcr {i:Nat} (h:aN IT P W ops FIN S0 ps n k m' σ)(hS:S0=L)(hps:ps=PL)(hb:(bl n m).set i true=bl n m':=by kernel_rfl)(e:zz L (upS PL (bl n m'))=S:=by kernel_rfl):zsu IT P W ops FIN k ⟨(bl n m).set i true⟩ S σ:=by
 subst hS hps e
 rw[hb];exact h
theorem z9u {k':Nat} {l:Array Bool} (h:aN IT P W ops FIN S0 ps n k 0 σ)(hps:ps=PL)(hk:k=k':=by kernel_rfl)(hb:(⟨bl n 0⟩:Array Bool)=l:=by kernel_rfl)(e:upS PL (bl n 0)=[]:=by kernel_rfl):zsu IT P W ops FIN k' l S0 σ:=by
 subst hps hk hb
 have h':zsu IT P W ops FIN k ⟨bl n 0⟩ (zz S0 (upS ps (bl n 0))) σ:=h
 rw[e] at h';exact h'
end
@[reducible] def AV.i (x:Int):AV:= .raw (.int .i64 x)
@[reducible] def AV.u (x:Int):AV:= .raw (.int .u8 x)
@[reducible] def AV.b (x:Bool):AV:= .raw (.bool x)
@[reducible] def AV.s (x:List UInt8):AV:= .raw (.string (bs x))
def mvOf:Op→Option Nat
 | .move (.tmp k)=>some k
 | .assign (.tmp k)=>some k
 |_=>none
section
variable {IT:IterP} {P:Program} {W:Owed} {ops ops0:Array Oper} {Q:List AV→St→Prop} {K:List AV→Prop} {o:Oper} {l:List Oper} {S S':List AV} {σ σ' σ'':St} {a:AV} {k:Nat}
theorem zzb (ho:mvOf o.op=some k)(hv:S[k]? =some a):zee S o=none∧zek S o=none∧qop P (zes S) σ o=some a:=by
 have h:o.op= .move (.tmp k)∨o.op= .assign (.tmp k):=by
  unfold mvOf at ho
  split at ho<;>cases ho
  ·rename_i h;exact .inl h
  ·rename_i h;exact .inr h
 rcases h with h|h<;>simp[zee,zek,qop,h,zes,hv]
theorem zaj (kk:zdd IT P W ops Q l S' σ)(ho:mvOf o.op=some k:=by exact rfl)(hg:o.guard=none:=by exact rfl)(hv:S[k]? =some a:=by exact rfl)(hS:zab S o.dst a=S':=by dsimp only[zab,List.set]):zdd IT P W ops Q (o::l) S σ:=by
 obtain⟨h1,h2,h3⟩:=zzb (P:=P) (σ:=σ) ho hv
 exact zwa hg h1 h2 (zbu h3) hS kk
theorem zel (kk:ahead IT P ops σ K l S')(ho:mvOf o.op=some k:=by exact rfl)(hd:(o.dst.all fun d=>decide (d<S.length))=true:=by exact rfl)(hg:o.guard=none:=by exact rfl)(hv:S[k]? =some a:=by exact rfl)(hS:zab S o.dst a=S':=by dsimp only[zab,List.set]):ahead IT P ops σ K (o::l) S:=by
 obtain⟨h1,h2,h3⟩:=zzb (P:=P) (σ:=σ) ho hv
 exact h_op hd hg h1 h3 hS kk
def exOf:Op→Option (Nat×Nat)
 | .extract (.tmp k) i=>some (k,i)
 |_=>none
theorem z9l {i:Nat} {vs:List AV} (ho:exOf o.op=some (k,i))(hv:S[k]? =some (.tup vs))(hi:vs[i]? =some a):zee S o=none∧zek S o=none∧qop P (zes S) σ o=some a:=by
 have h:o.op= .extract (.tmp k) i:=by
  unfold exOf at ho
  split at ho<;>cases ho
  rename_i h;exact h
 simp[zee,zek,qop,h,zes,hv,hi]
theorem h_ex {i:Nat} {vs:List AV} (kk:ahead IT P ops σ K l S')(ho:exOf o.op=some (k,i):=by exact rfl)(hd:(o.dst.all fun d=>decide (d<S.length))=true:=by exact rfl)(hg:o.guard=none:=by exact rfl)(hv:S[k]? =some (.tup vs):=by exact rfl)(hi:vs[i]? =some a:=by exact rfl)(hS:zab S o.dst a=S':=by dsimp only[zab,List.set]):ahead IT P ops σ K (o::l) S:=by
 obtain⟨h1,h2,h3⟩:=z9l (P:=P) (σ:=σ) ho hv hi
 exact h_op hd hg h1 h3 hS kk
end
section
variable {P:Program} {fn:Func} {S:List AV} {σ:St}
theorem zbb {y r:Bool} (hr:some y=some r)(h:zbm P fn σ S=some (.raw (.bool y)):=by exact rfl):zyy P fn (.raw (.bool r)) .ret S σ:=zex (fun(r:Bool)=>(.raw (.bool r):AV)) hr h rfl rfl
theorem zdv {k:IntKind} {y r:Int} (hr:some y=some r)(h:zbm P fn σ S=some (.raw (.int k y)):=by exact rfl):zyy P fn (.raw (.int k r)) .ret S σ:=zex (fun(r:Int)=>(.raw (.int k r):AV)) hr h rfl rfl
end
section
variable {IT:IterP} {P:Program} {W:Owed} {ops ops0:Array Oper} {FIN:List AV→St→Prop} {S0 L S:List AV} {ps PL:List (Option (Nat×AV))} {n k m m':Nat} {σ:St} {o o' o'':Oper}
theorem z5w (hops:ops=ops0)(hS:S0=L)(hps:ps=PL)(i:Nat)(h:zdd IT P W ops (fun S σ=>zsu IT P W ops FIN k ⟨(bl n m).set i true⟩ S σ) [o] S σ)
 (ho:ops0.toList[i]? =some o:=by exact rfl) (hr:Region.ready .any ops0 ⟨bl n m⟩=[i]:=by kernel_rfl) (e:zz L (upS PL (bl n m))=S:=by dsimp only[zz,List.foldl,List.set,upS,bl,Nat.reduceMod,Nat.reduceDiv,Nat.reduceBEq]):aN IT P W ops FIN S0 ps n (k+1) m σ:=
 aN_n hops hS hps [i] (all_cons (zqp hops ho h) z6e) hr (by simp) e
theorem z9x (hops:ops=ops0)(hS:S0=L)(hps:ps=PL)(i j:Nat)(h:zdd IT P W ops (fun S σ=>zsu IT P W ops FIN k ⟨(bl n m).set i true⟩ S σ) [o] S σ)(h':zdd IT P W ops (fun S σ=>zsu IT P W ops FIN k ⟨(bl n m).set j true⟩ S σ) [o'] S σ)
 (ho:ops0.toList[i]? =some o:=by exact rfl) (ho':ops0.toList[j]? =some o':=by exact rfl) (hr:Region.ready .any ops0 ⟨bl n m⟩=[i,j]:=by kernel_rfl) (e:zz L (upS PL (bl n m))=S:=by dsimp only[zz,List.foldl,List.set,upS,bl,Nat.reduceMod,Nat.reduceDiv,Nat.reduceBEq]):aN IT P W ops FIN S0 ps n (k+1) m σ:=
 aN_n hops hS hps [i,j] (all_cons (zqp hops ho h) (all_cons (zqp hops ho' h') z6e)) hr (by simp) e
theorem aN_3 (hops:ops=ops0)(hS:S0=L)(hps:ps=PL)(i j q:Nat)(h:zdd IT P W ops (fun S σ=>zsu IT P W ops FIN k ⟨(bl n m).set i true⟩ S σ) [o] S σ)(h':zdd IT P W ops (fun S σ=>zsu IT P W ops FIN k ⟨(bl n m).set j true⟩ S σ) [o'] S σ)(h'':zdd IT P W ops (fun S σ=>zsu IT P W ops FIN k ⟨(bl n m).set q true⟩ S σ) [o''] S σ)
 (ho:ops0.toList[i]? =some o:=by exact rfl) (ho':ops0.toList[j]? =some o':=by exact rfl) (ho'':ops0.toList[q]? =some o'':=by exact rfl) (hr:Region.ready .any ops0 ⟨bl n m⟩=[i,j,q]:=by kernel_rfl) (e:zz L (upS PL (bl n m))=S:=by dsimp only[zz,List.foldl,List.set,upS,bl,Nat.reduceMod,Nat.reduceDiv,Nat.reduceBEq]):aN IT P W ops FIN S0 ps n (k+1) m σ:=
 aN_n hops hS hps [i,j,q] (all_cons (zqp hops ho h) (all_cons (zqp hops ho' h') (all_cons (zqp hops ho'' h'') z6e))) hr (by simp) e
end
def bzc:Bool→Nat→List Nat→List Nat
 |true,i,l=>i::l
 |false,_,l=>l
def bz:Nat→Nat→Nat→List Nat
 |_,0,_=>[]
 |i,n+1,m=>bzc (m%2==1) i (bz (i+1) n (m/2))
section
variable {IT:IterP} {P:Program} {W:Owed} {k0:Nat} {ops:Array Oper} {Q:List AV→St→Prop} {o:Oper} {l:List Oper} {S S':List AV} {σ σ':St} {f:FuncId} {args args':List AV} {r:AV}
theorem zfu {c:Code} {Q:AQ} (h:awp IT P W k0 c Q S' σ)(hS:S=S':=by dsimp only[zz,zai,List.foldl,List.set,bz,bzc,Nat.reduceMod,Nat.reduceDiv,Nat.reduceBEq,Nat.reduceAdd]):awp IT P W k0 c Q S σ:=zal hS rfl h
theorem zdo {n0:Nat} (m:List Bool)(h:fgM m S=S':=by kernel_rfl)(hσ:σ'=σ:=by kernel_rfl):Wk n0 S σ S' σ':=zdl m h hσ
end
end Go.Ab
