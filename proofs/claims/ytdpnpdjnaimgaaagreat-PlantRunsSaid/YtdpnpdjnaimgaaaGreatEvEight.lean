/- Helper lemmas. -/
import Derived.Test.YtdpnpdjnaimgaaaGreatEvFive
set_option linter.unusedVariables false
set_option linter.unusedSimpArgs false
/- The executor where function values hold on to what is not frozen. A helper text: it speaks of no program. -/
namespace Go.Ev
def JQ:Row->Prop
 | .vec _ _ _ _ l=>l.length=0
 | .nest _ _ _ _ _ _ _ _ l=>l.length=0
 | _=>False
def fy(P:Program)(o:Oper)(S:St)(K:St->Out->Prop):Prop :=
 match o.op with
 | .makeFunc f xs ys=>K S ⟨.fn f (xs.toList.map S.get) (ys.toList.map S.get),[]⟩
 | .binOp op t x y yt=>match S.get y with
  | .nils=>match S.get x with
   | .sl _ _ _ l=>match P.underlying t with
    | some (.slice _)=>qM op l fun v=>K S ⟨v,[]⟩
    | _=>False
   | .own id=>match S.row id with
    | .vec _ _ _ _ l=>match P.underlying t with
     | some (.slice _)=>qM op l fun v=>K S ⟨v,[]⟩
     | _=>False
    | _=>False
   | _=>fk P o.dst (.binOp op t x y yt) S.get S.row fun out _=>K S out
  | _=>fk P o.dst (.binOp op t x y yt) S.get S.row fun out _=>K S out
 | .call c=>match c.callee with
  | .value f=>match S.get f with
   | .fn (.func _) first A6=>(match F9 (first++c.args.toList.map S.get++A6)with
    | true=>fk P o.dst (.call c) S.get S.row fun out _=>K S out
    | false=>∃ frz:Bool,match frz with
     | false=>fk P o.dst (.call c) S.get S.row fun out _=>K S out
     | true=>iD (S.freeze (gW ((first++c.args.toList.map S.get++A6).flatMap (M3 4 S.row)))) fun S=>fk P o.dst (.call c) S.get S.row fun out _=>K S out)∨SL P c f S K
   | .fn (.yield l) [] []=>match S.row S.t.length with
    | .ctr l' xs k false=>(l=l'/\xs[k]? = some (c.args.toList.map S.get)/\ow (c.args.toList.map S.get)=true)/\K S ⟨.tt,[(S.t.length,.ctr l' xs (k+1) false)]⟩/\K S ⟨.ff,[(S.t.length,.ctr l' xs (k+1) true)]⟩
    | _=>False
   | _=>False
  | _=>fk P o.dst (.call c) S.get S.row fun out _=>K S out
 | .assign x=>match S.get x,o.dst with
  | .nils,some d=>fk P o.dst o.op S.get S.row (fun out _=>K S out)∨(A8 S d=true/\∃ r:Row,JQ r/\iD (S.kill d) fun S'=>K S' ⟨.own d,[(d,r)]⟩)
  | _,_=>fk P o.dst o.op S.get S.row fun out _=>K S out
 | op=>fk P o.dst op S.get S.row fun out _=>K S out
def JR(P:Program)(o:Oper)(S:St)(K:St->Out->Prop):Prop :=
 match X1 o.op with
 | true=>match o.dst with
  | some d=>match A8 S d with
   | true=>iD (S.kill d) fun S=>fy P o S K
   | false=>False
  | none=>fy P o S K
 | false=>fy P o S K
def rv(P:Program)(all:List Oper):List Oper->Nat->St->(St->Prop)->Prop
 | [],_,S,K=>K S
 | o :: l,k,S,K=>match gw all.toArray S o with
  | some true=>JR P o S fun S out=>bQ (uA all k) out fun out=>pG S o.dst out fun S=>rv P all l (k+1) S K
  | some false=>pG S o.dst ⟨.tup [],[]⟩ fun S=>rv P all l (k+1) S K
  | none=>False
def kM(P:Program):Code->St->(Ex->St->Prop)->Prop
 | .skip,S,Q=>Q .norm S
 | .label _,S,Q=>Q .norm S
 | .region _ ops draw,S,Q=>match draw with
  | false=>rv P ops.toList ops.toList 0 S fun S=>iD S (Q .norm)
  | true=>(uB P ops && (cB P ops.toList).all (A8 S) && jn ops.toList)=true/\iD (S.kills (cB P ops.toList)) fun S=>gj P ops.toList ops.toList 0 S [] fun S=>iD S (Q .norm)
 | .seq a b,S,Q=>kM P a S fun e S=>match e with
  | .norm=>kM P b S Q
  | e=>Q e S
 | .cond c a b,S,Q=>match S.get c with
  | .tt=>kM P a S Q
  | .ff=>kM P b S Q
  | .bool x=>(x=true->kM P a S Q)/\(x=false->kM P b S Q)
  | _=>False
 | .scope c,S,Q=>kM P c S Q
 | .block id c,S,Q=>kM P c S fun e S=>match e with
  | .exit i=>match Nat.beq i id with
   | true=>Q .norm S
   | false=>Q (.exit i) S
  | e=>Q e S
 | .loop c,S,Q=>(∃ n,Nb (kM P c) n S Q) ∨
   ∃ (ι:Type) (ws bs:List Nat) (vs:List (Nat×VT)) (V:ι->List AV) (BR VR:ι->List Row) (μ:ι->Nat) (I:ι->Prop),SM (Z9 c) fun ds=>iD (canonV vs S) fun S0 =>
    (∃ i,gp ds S0 ws bs vs S fun P9 E9 I0=>I i/\P9=V i/\E9=BR i/\I0=VR i) /\
    ∀ i,I i->iD (M5 ds S0 ws bs vs (V i) (BR i) (VR i)) fun S1=>kM P c S1 fun e S2=>match e with
     | .norm=>∃ i',gp ds S0 ws bs vs S2 fun P9 E9 I0=>(μ i' < μ i/\I i')/\P9=V i'/\E9=BR i'/\I0=VR i'
     | e=>Q e S2
 | .rangeFunc _ _ _ _,_,_=>False
 | .ret,S,Q=>Q .ret S
 | .exit id,S,Q=>Q (.exit id) S
 | _,_,_=>False
def EE(P:Program)(fn:Func)(args:List AV)(res:AV):Prop :=
 match fn.body with
 | none=>False
 | some c=>iD ⟨args++List.replicate (fn.ntmps-args.length) .any,List.replicate fn.ntmps .none,.plain⟩ fun S=>kM P c S fun e S=>match e with
  | .exit _=>False
  | _=>match cJ P S fn.results.toList with
   | some l=>BP (dS l).fin fun v=>v=res
   | none=>False
def wZ(P:Program)(fn:Func)(args:List AV)(ins:List Row)(res:AV)(n7:List Row):Prop :=
 match fn.body with
 | none=>False
 | some c=>(Z0 ins.length args && ins.all (fun r=>E4 ins.length r && r.live) && Nat.ble args.length fn.ntmps)=true /\
  iD ⟨aX (List.range' fn.ntmps ins.length) args++List.replicate (fn.ntmps-args.length) .any,List.replicate fn.ntmps .none++ins.map (C1 (List.range' fn.ntmps ins.length)),.plain⟩ fun S=>kM P c S fun e S=>match e with
  | .exit _=>False
  | _=>match bh P S fn.results.toList with
   | some l=>∃ news:List Nat,(di (List.range' fn.ntmps ins.length++news) && Nat.beq n7.length (List.range' fn.ntmps ins.length++news).length && res.under n7.length && n7.all (E4 n7.length))=true /\
     BP (dS l).fin fun v=>v=res.ren (List.range' fn.ntmps ins.length++news)/\(List.range' fn.ntmps ins.length++news).map S.row=n7.map (C1 (List.range' fn.ntmps ins.length++news))
   | none=>False
/- The executor where function values hold on to what is not frozen: it is sound. A helper text: it speaks of no program. -/
section
variable {P:Program}{B:Nat->Prop}{w0:World}{F0:Env P}{S:St}{β:Nat->Option Hd}{F:Nat->Prop}{a:Act}{w:World}{ops:Array Oper}
theorem tH{o:Oper}{K:St->Out->Prop}(h:fy P o S K):∀ c,o.op ≠ .defer c:=by
 intro c e;unfold fy at h;rw[e]at h;exact h
theorem CK(hR:Rel B w0 F0 S β F a w){o:Oper}{x:Operand}(ho:o.op = .assign x)(hx:S.get x = .nils){d:Nat}(hd:o.dst=some d)(hk:A8 S d=true){r:Row}(hr:JQ r){K:St->Out->Prop}(hK:K (S.kill d) ⟨.own d,[(d,r)]⟩){Q:Exit->Act->World->Prop} :
  o.wp P a w (R6 B w0 F0 o.dst K) Q:=by
 have hv:=hR.get x;rw[hx]at hv;have IK:=hR.topn d hk;obtain⟨β1,k1,k2,jK⟩:=hR.kill d IK
 let β':Nat->Option Hd:=fun j=>if j=d then some ⟨none,0,0,iw⟩else β1 j
 have b1:β' d=some ⟨none,0,0,iw⟩:=by simp[β']
 have b2:∀ j,j≠d->β' j=β1 j:=fun j hj=>by simp[β',hj]
 have b3:∀ j,β1 j≠none->β' j=β1 j:=fun j hj=>b2 j fun e=>hj (e ▸ k1)
 have b4:∀ j b,y0 β' j b->j≠d/\y0 β1 j b:=fun j b h=>by
  by_cases e:j=d
  ·subst e;rw[y0,b1]at h;simp at h
  ·exact⟨e,by rw[y0,b2 j e]at h;exact h⟩
 refine eC (v:=a.eval x) (w':=w) (by simp[execOp,ho]) ⟨S.kill d,_,hK,β',F,?_⟩;rw[hv.nils_inv];have lI:=jK.still (dst:=o.dst) (x := .nils) (v := .slice none 0 0) (.imm .nils);have hlen:((S.kill d).put o.dst ⟨.own d,[(d,r)]⟩).t.length=((S.kill d).put o.dst ⟨.nils,[]⟩).t.length:=by simp[St.put,dY,hd]
 have C2:∀ j,((S.kill d).put o.dst ⟨.own d,[(d,r)]⟩).row j=if d=j/\d<(S.kill d).h.length then r else(S.kill d).row j:=fun j=>by
  show(u6 (S.kill d).h [(d,r)]).getD j .none=_
  simp only[u6,s9];rfl
 have live:∀ j,((S.kill d).put o.dst ⟨.own d,[(d,r)]⟩).row j ≠ .none->j≠d->(S.kill d).row j ≠ .none:=fun j h hj=>by
  rw[C2,if_neg (fun e=>hj e.1.symm)]at h;exact h
 refine lI.trade hlen rfl (fun i hi=>?_) (fun j=>?_) (fun i j b hi hj B9 U4=>?_) (fun i b hi B9=>?_) (fun i b B9=>⟨i,(b4 i b B9).2⟩) (fun j hd' hj=>?_) (fun id l xs k e h=>?_)
 ·have hs:=lI.slots i hi;show B4 β' F w ((dY (S.kill d).t o.dst (.own d)).getD i .any) _
  have Mx:B4 β1 F w ((dY (S.kill d).t o.dst .nils).getD i .any) ((a.put o.dst (.slice none 0 0)).tmps.getD i undef):=hs;rw[Z8]at Mx ⊢;by_cases e:o.dst=some i/\i<(S.kill d).t.length
  ·rw[if_pos e]at Mx ⊢;rw[Mx.nils_inv];exact .own b1
  ·rw[if_neg e]at Mx ⊢;exact Mx.grow b3 (fun _ h=>h) (C5.refl _ _)
 ·rw[C2];split
  ·rename_i e;rw[<- e.1];cases r with
   | vec ty sz d0 enc l =>
    have:l=[]:=List.eq_nil_of_length_eq_zero hr;subst this;exact⟨_,b1,rfl,rfl,.inl ⟨rfl,rfl,rfl⟩⟩
   | nest ty sz j0 M8 d0 enc ys ho l =>
    have:l=[]:=List.eq_nil_of_length_eq_zero hr;subst this;exact⟨_,b1,rfl,.inl ⟨rfl,rfl,rfl,rfl⟩⟩
   | _=>exact hr.elim
  ·exact(jK.rows j).grow b3 (fun _ h=>h) (C5.refl _ _) (fun _ _=>rfl)
 ·obtain⟨e1,h1⟩:=b4 i b B9;obtain⟨e2,h2⟩:=b4 j b U4;exact jK.inj i j b (live i hi e1) (live j hj e2) h1 h2
 ·obtain⟨e1,h1⟩:=b4 i b B9;exact⟨i,live i hi e1,h1⟩
 ·have e:j≠d:=fun e=>by subst e;rw[IK]at hj;cases hj
  rw[b2 j e];exact jK.top j hd' hj
 ·rw[C2]at h;split at h
  ·subst h;exact hr.elim
  ·exact h
theorem ns(hR:Rel B w0 F0 S β F a w){o:Oper}(B3:X1 o.op=true->∀ d,o.dst=some d->β d=none){K:St->Out->Prop}(h:fy P o S K){Q:Exit->Act->World->Prop} :
  o.wpIn (FW F0.r) 0 P a w (R6 B w0 F0 o.dst K) Q:=by
 have dc:=tH h;unfold fy at h;split at h
 ·rename_i f xs ys ho;refine U0 dc ?_;have M4:execOp a.eval o=(do pure (.value (<- Instr.makeFunc f (xs.map a.eval) (ys.map a.eval)))):=by simp[execOp,ho]
  obtain⟨h1,h2⟩:=L0 hR xs;obtain⟨h3,h4⟩:=L0 hR ys;exact K5 M4 (v := .func f (xs.map a.eval) (ys.map a.eval)) (w':=w) (by simp[Instr.makeFunc]) ⟨S,_,h,β,F,hR.still (.fn h1 h2 h3 h4)⟩
 ·rename_i op t x y yt ho;refine U0 dc ?_;split at h
  ·rename_i hy;split at h
   ·rename_i α sz d enc l hx;split at h
    ·rename_i e hu;refine IB hR ho hu hy ?_ h;have:=hR.get x;rw[hx]at this;rcases this.sl_inv with ⟨h1,x0,c0,h2⟩|⟨b,ob,cap,g,h1,_⟩
     ·exact⟨_,_,_,h2,fun _=>h1⟩
     ·exact⟨_,_,_,h1,fun e=>by cases e⟩
    ·exact h.elim
   ·rename_i id hx;split at h
    ·rename_i α ty sz d enc l hr;split at h
     ·rename_i e hu;refine IB hR ho hu hy ?_ h;have:=hR.get x;rw[hx]at this;obtain⟨hd,hβ,hv⟩:=this.own_inv;obtain⟨_,q⟩:=ay hR hr hβ;refine⟨_,_,_,hv,fun e=>?_⟩;rcases q with ⟨q,_⟩|⟨b,vs,q,_⟩
      ·exact q
      ·rw[q]at e;cases e
     ·exact h.elim
    ·exact h.elim
   ·rw[<- ho]at h;exact F2 hR B3 h
  ·rw[<- ho]at h;exact F2 hR B3 h
 ·rename_i c ho;split at h
  ·rename_i f hc;split at h
   ·rename_i fX first A6 hg
    refine U0 dc ?_;rcases h with h|h
    ·split at h
     ·rw[<- ho]at h;exact F2 hR B3 h
     ·obtain⟨frz,h⟩:=h;split at h
      ·rw[<- ho]at h;exact F2 hR B3 h
      ·rw[B5,<- ho]at h;obtain⟨F',O5⟩:=hR.freeze (gW (_:List Nat));exact F2 O5 B3 h
    ·exact wE hR ho hc h
   ·rename_i l hg;split at h
    ·rename_i l' xs k C2;obtain⟨⟨rfl,hx,IU⟩,h1,h2⟩:=h;exact uC hR ho hc hg C2 hx IU h1 h2
    ·exact h.elim
   ·exact h.elim
  ·rw[<- ho]at h;exact U0 dc (F2 hR B3 h)
 ·rename_i x ho;refine U0 dc ?_;split at h
  ·rename_i d hx hd;rcases h with h|⟨hk,r,hr,h⟩
   ·exact F2 hR B3 h
   ·rw[B5]at h;exact CK hR ho hx hd hk hr h
  ·exact F2 hR B3 h
 ·exact U0 dc (F2 hR B3 h)
theorem JS(hR:Rel B w0 F0 S β F a w){o:Oper}{K:St->Out->Prop}(h:JR P o S K){Q:Exit->Act->World->Prop}:o.wpIn (FW F0.r) 0 P a w (R6 B w0 F0 o.dst K) Q:=by
 unfold JR at h;split at h
 ·rename_i ha;split at h
  ·rename_i d hd;split at h
   ·rename_i A2;rw[B5]at h;obtain⟨β',h1,h2,O5⟩:=hR.kill d (hR.topn d A2);exact ns O5 (fun _ d' hd'=>by rw[hd]at hd'; cases hd'; exact h1) h
   ·exact h.elim
  ·rename_i hd;exact ns hR (fun _ d' hd'=>by rw[hd]at hd'; cases hd') h
 ·rename_i ha;exact ns hR (fun Qx=>by rw[ha]at Qx; cases Qx) h
theorem nv{K:St->Prop}{Q:Exit->Act->World->Prop}(hQ:∀ S β F a w,Rel B w0 F0 S β F a w->K S->Q .normal a w):∀ (l:List Oper) (k:Nat) {S:St} {β:Nat->Option Hd} {F:Nat->Prop} {a:Act} {w:World},(∀ j,l[j]? = ops[k+j]?) ->
  Rel B w0 F0 S β F a w->rv P ops.toList l k S K->wpOpsIn (FW F0.r) 0 P ops Q (List.range' k l.length) a w
 | [],k,S,β,F,a,w,_,hR,h=>hQ _ _ _ _ _ hR h
 | o :: l,k,S,β,F,a,w,hl,hR,h=>by
  have h0:ops[k]? = some o:=by simpa using (hl 0).symm
  have lC:∀ j,l[j]? = ops[k+1+j]? := fun j=>by have:=hl (j+1);simpa[Nat.add_assoc,Nat.add_comm 1 j]using this
  simp only[zB2,List.range'_succ];simp only[wpOpsIn,h0];simp only[rv,Array.toArray_toList]at h;split at h
  ·rename_i hg;rw[cR hR hg];simp only[if_true];refine Oper.wpIn_mono ?_ (JS hR h);rintro a' w' ⟨S',out,hK,β',F',O5⟩;obtain⟨v,hf,hK⟩:=eE hK;rw[jm]at hK;exact nv hQ l (k+1) lC (Rel.fine (x:=out.v) (rows:=out.rows) O5 hf) hK
  ·rename_i hg;rw[cR hR hg];simp only[zB0,if_false];rw[jm]at h;exact⟨fun _ _=>trivial,nv hQ l (k+1) lC (hR.still (.imm v7.undef)) h⟩
  ·exact h.elim
end
section
variable {P:Program}{B:Nat->Prop}{w0:World}{F0:Env P}{S:St}{β:Nat->Option Hd}{F:Nat->Prop}{a:Act}{w:World}
theorem JT{c:Code}(ih:∀ {S:St} {β:Nat->Option Hd} {F:Nat->Prop} {a:Act} {w:World} {Q:Ex->St->Prop},kM P c S Q->Rel B w0 F0 S β F a w->c.wpIn (FW F0.r) 0 P (Gm B w0 F0 Q) a w){Q:Ex->St->Prop} :
  ∀ (n:Nat) {S:St} {β:Nat->Option Hd} {F:Nat->Prop} {a:Act} {w:World},Nb (kM P c) n S Q->Rel B w0 F0 S β F a w->(Code.loop c).wpIn (FW F0.r) 0 P (Gm B w0 F0 Q) a w:=by
 intro n S β F a w h hR;refine Y5 (fun n a w=>∃ S,Nb (kM P c) n S Q/\∃ β F,Rel B w0 F0 S β F a w) n ⟨S,h,β,F,hR⟩ ?_;rintro n a w ⟨S,h,β,F,hR⟩;cases n with
 | zero=>exact h.elim
 | succ n =>
  refine wpIn_mono (ih h hR) ?_;rintro e a' w' hq;cases e with
  | normal =>
   obtain⟨S',h1,β',F',h2⟩:=hq;exact⟨n,Nat.lt_succ_self n,S',h1,β',F',h2⟩
  | ret=>exact hq
  | exit i=>exact hq
  | goto l=>exact hq
  | panic ch=>exact hq
  | outgrown=>exact hq
theorem EF(hm:P.follows .mixedOrders=true):∀ (c:Code) {B:Nat->Prop} {w0:World} {F0:Env P} {S:St} {β:Nat->Option Hd} {F:Nat->Prop} {a:Act} {w:World} {Q:Ex->St->Prop},kM P c S Q->Rel B w0 F0 S β F a w->c.wpIn (FW F0.r) 0 P (Gm B w0 F0 Q) a w:=by
 intro c
 induction c with
 | skip=>intro B w0 F0 S β F a w Q h hR;exact wpIn_skip (.norm hR h)
 | label l=>intro B w0 F0 S β F a w Q h hR;exact wpIn_label (.norm hR h)
 | ret=>intro B w0 F0 S β F a w Q h hR;exact wpIn_ret ⟨S,h,β,F,hR⟩
 | exit i=>intro B w0 F0 S β F a w Q h hR;exact wpIn_exit ⟨S,h,β,F,hR⟩
 | region id ops draw =>
  intro B w0 F0 S β F a w Q h hR;cases draw with
  | false =>
   refine wpIn_region ?_;rw[List.range_eq_range'];have:=nv (P:=P) (ops:=ops) (K:=fun S=>iD S (Q .norm)) (Q:=Gm B w0 F0 Q) (fun S β F a w hR h=>by rw[B5]at h;exact .norm hR h) ops.toList 0 va9 hR h;simpa using this
  | true =>
   obtain⟨h1,h2⟩:=h;rw[B5]at h2;exact qT (K:=fun S=>iD S (Q .norm)) hm (fun S β F a w hR h=>by rw[B5]at h;exact .norm hR h) hR h1 h2
 | seq x y Nj Nk =>
  intro B w0 F0 S β F a w Q h hR;refine wpIn_seq (wpIn_mono (Nj h hR) ?_);rintro e a' w' hq;cases e with
  | normal=>obtain⟨S',h1,β',F',h2⟩:=hq;exact Nk h1 h2
  | ret=>exact hq
  | exit i=>exact hq
  | goto l=>exact hq
  | panic ch=>exact hq
  | outgrown=>exact hq
 | cond c x y Nj Nk =>
  intro B w0 F0 S β F a w Q h hR;simp only[kM]at h;have hc:=hR.get c;split at h
  ·rename_i e;rw[e]at hc;exact wpIn_cond_true hc.tt_inv (Nj h hR)
  ·rename_i e;rw[e]at hc;exact wpIn_cond_false hc.ff_inv (Nk h hR)
  ·rename_i b e;rw[e]at hc;exact wpIn_cond_split hc.bool_inv (fun hb=>Nj (h.1 hb) hR) fun hb=>Nk (h.2 hb) hR
  ·exact h.elim
 | scope x ih =>
  intro B w0 F0 S β F a w Q h hR;exact qV (ih h hR) (fun _ _ _ q=>q)
 | block id x ih =>
  intro B w0 F0 S β F a w Q h hR;refine wpIn_block (wpIn_mono (ih h hR) ?_);rintro e a' w' hq;cases e with
  | normal=>exact hq
  | ret=>exact hq
  | exit i =>
   obtain⟨S',h1,β',F',h2⟩:=hq;simp only[]at h1;cases hb:Nat.beq i id with
   | true =>
    rw[hb]at h1;have:=zA8 hb;simp only[Exit.inBlock,this,if_true];exact⟨S',h1,β',F',h2⟩
   | false =>
    rw[hb]at h1;have:=Nat.ne_of_beq_eq_false hb;simp only[Exit.inBlock,this,if_false];exact⟨S',h1,β',F',h2⟩
  | goto l=>exact hq
  | panic ch=>exact hq
  | outgrown=>exact hq
 | loop x ih =>
  intro B w0 F0 S β F a w Q h hR;rcases h with ⟨n,h⟩|⟨ι,ws,bs,vs,V,BR,VR,μ,I,h⟩
  ·exact JT ih n h hR
  ·rw[kE,B5]at h;obtain⟨⟨i,h0⟩,Ju⟩:=h;have Qa:(Ev.canonV vs S).n=F0.n:=(qW vs S).trans hR.nn;obtain⟨P9,E9,I0,⟨hI,rfl,rfl,rfl⟩,β',O5⟩:=dj Qa hR h0;refine Y5 (fun n a w=>∃ i,μ i=n/\I i/\∃ β F,Rel B w0 F0 (M5 (Z9 x) (Ev.canonV vs S) ws bs vs (V i) (BR i) (VR i)) β F a w) (μ i) ⟨i,rfl,hI,β',F,O5⟩ ?_;rintro n a w ⟨i,rfl,hI,β',F,O5⟩;have h1:=Ju i hI;rw[B5]at h1;refine wpIn_mono (ih h1 O5) ?_;rintro e a' w' hq;cases e with
   | normal =>
    obtain⟨S',⟨i',h1⟩,β',F',h2⟩:=hq;obtain⟨P9,E9,I0,⟨⟨A2,QA⟩,rfl,rfl,rfl⟩,β',O5⟩:=dj Qa h2 h1;exact⟨_,A2,i',rfl,QA,β',F',O5⟩
   | ret=>exact hq
   | exit i=>exact hq
   | goto l=>exact hq
   | panic ch=>exact hq
   | outgrown=>exact hq
 | rangeFunc g ps assign lQ Vl Vm =>
  intro B w0 F0 S β F a w Q h hR;exact h.elim
 | _=>intro B w0 F0 S β F a w Q h;exact h.elim
end
section
variable {P:Program}{B:Nat->Prop}{w0:World}{F0:Env P}{S:St}{β:Nat->Option Hd}{F:Nat->Prop}{a:Act}{w:World}
theorem zx(hm:P.follows .mixedOrders=true){f:FuncId}{fn:Func}{args:List AV}{res:AV}(hf:P.funcs[f]? = some fn)(J8:(fn.name == "runtime.NumGoroutine")=false) (h:EE P fn args res):PC P f args res:=by
 intro F w vs hF H5 R0;unfold EE at h;split at h
 ·exact h.elim
 ·rename_i c hb;refine .inl ⟨Go.MuLone.run_callFunc_enter hf J8 hb vs w,callsIn_wide.1 (callsIn_of_wp_marks (n:=0) hf hb trivial ?_)⟩;rw[B5]at h;have hR:Rel (fun b=>w.heap.size<=b) w (Env.plain P F (fun _=>none) none .plain (fun _=>rfl)) ⟨args++List.replicate (fn.ntmps-args.length) .any,List.replicate fn.ntmps .none,.plain⟩ (fun _=>none) F { tmps:=vs++Array.replicate (fn.ntmps-vs.size) undef,defers:=[] } w:={
   len:=by simp[H5]
   slots:=fun i hi=>by
    by_cases A2:i<args.length
    ·have:=R0 i A2;have e1:(args++List.replicate (fn.ntmps-args.length) AV.any).getD i .any=args.getD i .any:=by simp[List.getD,List.getElem?_append,A2]
     have e2:(vs++Array.replicate (fn.ntmps-vs.size) undef).getD i undef=vs.getD i undef:=by
      simp[Array.getD_eq_getD_getElem?,Array.getElem?_append,show i<vs.size by omega]
     rw[e1,e2];exact .imm this
    ·have e1:(args++List.replicate (fn.ntmps-args.length) AV.any).getD i .any = .any:=by
      simp only[List.getD,List.getElem?_append,A2,if_false,List.getElem?_replicate];split<;>rfl
     rw[e1];exact .imm (.any _)
   marks:=⟨[],⟨rfl,fun _=>rfl⟩,.nil,by simp⟩
   rows:=fun i=>by
    have:(St.row ⟨args++List.replicate (fn.ntmps-args.length) .any,List.replicate fn.ntmps .none,.plain⟩ i) = .none:=by
     simp only[St.row,List.getD,List.getElem?_replicate];split<;>rfl
    rw[this];trivial
   inj:=fun i j b _ _ h=>by simp[y0]at h
   bF:=fun i b _ h=>by simp[y0]at h
   bB:=fun i b h=>by simp[y0]at h
   FB:=fun b hb=>⟨hF b hb,.inl hb⟩
   below := .refl _ _
   BW:=fun _ h=>h
   top:=fun _ _ h=>by cases h
   topn:=fun _ _=>rfl
   nn:=rfl
   inc:=fun _ h=>h
   keep:=C5.refl _ _
   sol:=fun _ _ _ h _=>h
   yl:=fun id l xs k e h=>by
    have:(St.row ⟨args++List.replicate (fn.ntmps-args.length) .any,List.replicate fn.ntmps .none,.plain⟩ id) = .none:=by
     simp only[St.row,List.getD,List.getElem?_replicate];split<;>rfl
    rw[this]at h;cases h }
  refine wpIn_mono (EF hm c h hR) ?_;have fin:∀ {S β F' a' w'} {r:List AV},Rel (fun b=>w.heap.size<=b) w (Env.plain P F (fun _=>none) none .plain (fun _=>rfl)) S β F' a' w'->cJ P S fn.results.toList=some r->BP (dS r).fin (fun v=>v=res) ->
    LeavesInM Fence.wide 0 P fn a'.tmps (fun e w'=>∃ v,e = .returned v/\RowKit.Below w.heap.size w w'/\v7 (fun b=>F b∨w.heap.size<=b) w' res v) a'.defers .returning w':=by
   intro S β F' a' w' r O5 hr hv;rw[cX]at hv;obtain⟨t,ds⟩:=a';refine cS ds O5 fun Vp U3 => ?_
   obtain⟨v,h1,h2⟩:=iJ U3 hr;rw[hv]at h2;exact⟨v,h1,v,rfl,U3.below.below,h2.mono (fun b hb=>by
    rcases hb with hb|⟨i,_,hb⟩
    ·exact(U3.FB b hb).2
    ·exact .inr (U3.bB i b hb).1) (fun _ _ _ _ h=>h)⟩
  rintro e a' w' hq;cases e with
  | normal =>
   obtain⟨S',h1,β',F',O5⟩:=hq;simp only[]at h1;split at h1
   ·exact fin O5 ‹_› h1
   ·exact h1.elim
  | ret =>
   obtain⟨S',h1,β',F',O5⟩:=hq;simp only[]at h1;split at h1
   ·exact fin O5 ‹_› h1
   ·exact h1.elim
  | exit i=>obtain⟨S',h1,_⟩:=hq;exact h1.elim
  | goto l=>exact hq.elim
  | panic ch=>exact hq.elim
  | outgrown=>exact hq.elim
theorem zy(hm:P.follows .mixedOrders=true){f:FuncId}{fn:Func}{args:List AV}{ins n7:List Row}{res:AV}(hf:P.funcs[f]? = some fn)(J8:(fn.name == "runtime.NumGoroutine")=false) (h:wZ P fn args ins res n7):PW P f args ins res n7:=by
 intro F w vs β hF H5 R0 O0;unfold wZ at h;split at h
 ·exact h.elim
 rename_i c hb;obtain⟨Jv,h⟩:=h;simp only[zA2]at Jv;obtain⟨⟨c1,c2⟩,c3⟩:=Jv;have c3:=Nat.le_of_ble_eq_true c3;refine⟨Go.MuLone.run_callFunc_enter hf J8 hb vs w,callsIn_wide.1 (callsIn_of_wp_marks (n:=0) hf hb trivial ?_)⟩;rw[B5]at h;obtain⟨sh,Jw⟩:∃ sh,List.range' fn.ntmps ins.length=sh:=⟨_,rfl⟩
 rw[Jw]at h;have shl:sh.length=ins.length:=by rw[<- Jw];simp
 have Nl:∀ k,k<ins.length->sh.getD k 0=fn.ntmps+k:=fun k hk=>by rw[<- Jw];exact oT _ _ _ hk
 have qQ:∀ k,k<ins.length->E4 ins.length (ins.getD k .none)=true/\ins.getD k .none ≠ .none:=fun k hk=>by
  have Jg:ins.getD k .none ∈ ins:=by simp[List.getD,hk]
  have:=List.all_eq_true.1 c2 _ Jg;simp only[zA2]at this;exact⟨this.1,fun e=>by rw[e]at this;simp[Row.live]at this⟩
 let β0:Nat->Option Hd:=fun j=>if fn.ntmps<=j then β (j-fn.ntmps)else none
 have b0:∀ k,β0 (fn.ntmps+k)=β k:=fun k=>by simp[β0]
 have WX:∀ j,j<fn.ntmps->β0 j=none:=fun j hj=>by simp[β0,Nat.not_le.2 hj]
 have Jx:∀ i b,y0 β0 i b->fn.ntmps<=i/\y0 β (i-fn.ntmps) b:=fun i b hb=>by
  by_cases hle:fn.ntmps<=i
  ·exact⟨hle,by simpa[y0,β0,hle]using hb⟩
  ·simp[y0,β0,hle]at hb
 have C2:∀ (t:List AV) id,(St.row ⟨t,List.replicate fn.ntmps .none++ins.map (C1 sh),.plain⟩ id)=if fn.ntmps<=id then C1 sh (ins.getD (id-fn.ntmps) .none)else .none:=fun t id=>by
  simp only[St.row,List.getD];by_cases hle:fn.ntmps<=id
  ·rw[List.getElem?_append_right (by simpa using hle)];simp only[List.length_replicate,List.getElem?_map,hle,if_true];cases ins[id-fn.ntmps]? <;> simp[C1]
  ·rw[List.getElem?_append_left (by simpa using hle)];simp[hle,List.getElem?_replicate,Nat.lt_of_not_le hle]
 have hR:Rel (fun b=>w.heap.size<=b∨jM β b) w (Env.plain P F β0 none .plain (fun _=>rfl)) ⟨aX sh args++List.replicate (fn.ntmps-args.length) .any,List.replicate fn.ntmps .none++ins.map (C1 sh),.plain⟩ β0 F { tmps:=vs++Array.replicate (fn.ntmps-vs.size) undef,defers:=[] } w:={
  len:=by simp[H5,u9]
  slots:=fun i hi=>by
   by_cases A2:i<args.length
   ·have:=R0 i A2;have e1:(aX sh args++List.replicate (fn.ntmps-args.length) AV.any).getD i .any=(args.getD i .any).ren sh:=by
     rw[<- D7];simp[List.getD,List.getElem?_append,u9,A2]
    have e2:(vs++Array.replicate (fn.ntmps-vs.size) undef).getD i undef=vs.getD i undef:=by
     simp[Array.getD_eq_getD_getElem?,Array.getElem?_append,show i<vs.size by omega]
    rw[e1,e2];exact this.ren (n:=ins.length) (fun k hk hd h=>by rw[Nl k hk,b0];exact h) (E8 c1 i)
   ·have e1:(aX sh args++List.replicate (fn.ntmps-args.length) AV.any).getD i .any = .any:=by
     simp only[List.getD,List.getElem?_append,u9,A2,if_false,List.getElem?_replicate];split<;>rfl
    rw[e1];exact .imm (.any _)
  marks:=⟨[],⟨rfl,fun _=>rfl⟩,.nil,by simp⟩
  rows:=fun id=>by
   rw[C2];split
   ·rename_i hle;by_cases A2:id-fn.ntmps<ins.length
    ·have:=kB (ids:=sh) (n:=ins.length) (β':=β0) (fun k hk hd h=>by rw[Nl k hk,b0];exact h) A2 (O0.rows (id-fn.ntmps)) (qQ _ A2).1;rw[Nl _ A2,show fn.ntmps+(id-fn.ntmps)=id by omega]at this;exact this
    ·have:ins.getD (id-fn.ntmps) .none = .none:=by simp[List.getD,zA7 (Nat.le_of_not_lt A2)]
     rw[this];trivial
   ·trivial
  inj:=fun i j b hi hj B9 U4=>by
   obtain⟨h1,h2⟩:=Jx i b B9;obtain⟨h3,h4⟩:=Jx j b U4;rw[C2,if_pos h1]at hi;rw[C2,if_pos h3]at hj;have:=O0.inj _ _ b (fun e=>hi (O8.2 e)) (fun e=>hj (O8.2 e)) h2 h4;omega
  bF:=fun i b hi B9=>by
   obtain⟨h1,h2⟩:=Jx i b B9;rw[C2,if_pos h1]at hi;exact O0.bF _ b (fun e=>hi (O8.2 e)) h2
  bB:=fun i b h=>⟨.inr ⟨_,(Jx i b h).2⟩,O0.bB _ b (Jx i b h).2⟩
  FB:=fun b hb=>⟨hF b hb,.inl hb⟩
  below := .refl _ _
  BW:=fun _ h => .inl h
  top:=fun _ _ h=>h
  topn:=fun j hj=>by
   simp only[A8]at hj;split at hj
   ·rename_i A2;simp only[List.length_append,u9,List.length_replicate,Nat.blt_eq]at A2;exact WX j va5
   ·cases hj
  nn:=rfl
  inc:=fun _ h=>h
  keep:=C5.refl _ _
  sol:=fun _ _ _ h _=>h
  yl:=fun id l xs k e h=>by
   rw[C2]at h;split at h
   ·by_cases A2:id-fn.ntmps<ins.length
    ·have hu:=(qQ _ A2).1;cases hr:ins.getD (id-fn.ntmps) .none<;>rw[hr]at h hu<;>simp[C1,E4]at h hu
    ·have:ins.getD (id-fn.ntmps) .none = .none:=by simp[List.getD,zA7 (Nat.le_of_not_lt A2)]
     rw[this]at h;cases h
   ·cases h }
 refine wpIn_mono (EF hm c h hR) ?_;have fin:∀ {S β1 F' a' w'} {l:List AV},Rel (fun b=>w.heap.size<=b∨jM β b) w (Env.plain P F β0 none .plain (fun _=>rfl)) S β1 F' a' w'->bh P S fn.results.toList=some l ->
   (∃ news:List Nat,(di (sh++news) && Nat.beq n7.length (sh++news).length && res.under n7.length && n7.all (E4 n7.length))=true/\BP (dS l).fin fun v=>v=res.ren (sh++news)/\(sh++news).map S.row=n7.map (C1 (sh++news))) ->
   LeavesInM Fence.wide 0 P fn a'.tmps (fun e w'=>∃ v β' F',e = .returned v/\I3 (fun b=>w.heap.size<=b∨jM β b) w w'/\(∀ k hd,β k=some hd->β' k=some hd)/\(∀ b,F b->F' b) /\
    (∀ b,F' b->b<w'.heap.size/\(F b∨w.heap.size<=b∨jM β b))/\B4 β' F' w' res v/\(∀ k,A3 β' F' w' k (n7.getD k .none)) /\
    (∀ i j b,n7.getD i .none ≠ .none->n7.getD j .none ≠ .none->y0 β' i b->y0 β' j b->i=j)/\(∀ i b,n7.getD i .none ≠ .none->y0 β' i b->¬ F' b) /\
    (∀ i b,y0 β' i b->b<w'.heap.size/\(w.heap.size<=b∨jM β b))) a'.defers .returning w':=by
  rintro S β1 F' a' w' l O5 hl ⟨news,Ul,hv⟩;rw[cX]at hv;obtain⟨hv,Jy⟩:=hv;simp only[zA2]at Ul;obtain⟨⟨⟨d1,d2⟩,d3⟩,d4⟩:=Ul;have d2:=zA8 d2;have dc:=gv d1;obtain⟨t,ds⟩:=a';refine cS ds O5 fun Vp U3 => ?_
  obtain⟨v,h1,h2⟩:=lR U3 hl;rw[hv]at h2;obtain⟨al,yK⟩:∃ al,sh++news=al:=⟨_,rfl⟩
  rw[yK]at dc d2 h2 Jy;have WY:∀ k,k<ins.length->al.getD k 0=fn.ntmps+k:=fun k hk=>by
   rw[<- Nl k hk,<- yK];simp[List.getD,List.getElem?_append,shl,hk]
  have WZ:ins.length<=al.length:=by rw[<- yK,List.length_append,shl];omega
  let β2:Nat->Option Hd:=fun k=>if k<al.length then β1 (al.getD k 0)else none
  have e2:∀ k,k<n7.length->β2 k=β1 (al.getD k 0):=fun k hk=>by simp[β2,<- d2,hk]
  have dA:∀ k b,y0 β2 k b->k<n7.length/\y0 β1 (al.getD k 0) b:=fun k b hb=>by
   by_cases A2:k<n7.length
   ·exact⟨A2,by simpa[y0,e2 k A2]using hb⟩
   ·simp[y0,β2,<- d2,A2]at hb
  have zn:∀ k,k<n7.length->S.row (al.getD k 0)=C1 al (n7.getD k .none):=fun k hk=>by
   have:(al.map S.row).getD k .none=(n7.map (C1 al)).getD k .none:=by rw[Jy]
   simpa[List.getD,List.getElem?_map,hk,d2 ▸ hk]using this
  have C0:∀ k,n7.getD k .none ≠ .none->k<n7.length/\S.row (al.getD k 0) ≠ .none:=fun k hk=>by
   by_cases A2:k<n7.length
   ·exact⟨A2,by rw[zn k A2];exact fun e=>hk (O8.1 e)⟩
   ·exact absurd (by simp[List.getD,zA7 (Nat.le_of_not_lt A2)]) hk
  refine⟨v,h1,v,β2,F',rfl,U3.below,fun k hd hk=>?_,U3.inc,U3.FB,h2.unren e2 d3 rfl,fun k=>?_,fun i j b hi hj B9 U4=>?_,fun i b hi B9=>?_,fun i b B9=>?_⟩
  ·have A2:k<ins.length:=by
    rcases Nat.lt_or_ge k ins.length with h|h
    ·exact h
    ·have:=O0.dead k (by simp[List.getD,zA7 h]);rw[this]at hk;cases hk
   have:=U3.top (fn.ntmps+k) hd (by show β0 (fn.ntmps+k)=some hd;rw[b0];exact hk);rw[e2 k va5,WY k A2];exact this
  ·by_cases A2:k<n7.length
   ·have:=U3.rows (al.getD k 0);rw[zn k A2]at this;exact gh e2 A2 (List.all_eq_true.1 d4 _ (by simp[List.getD,A2])) this
   ·have:n7.getD k .none = .none:=by simp[List.getD,zA7 (Nat.le_of_not_lt A2)]
    rw[this];trivial
  ·obtain⟨l1,r1⟩:=C0 i hi;obtain⟨l2,r2⟩:=C0 j hj;have heq:=U3.inj _ _ b r1 r2 (dA i b B9).2 (dA j b U4).2;have li:i<al.length:=by omega
   have lj:j<al.length:=by omega
   have e':al[i]=al[j]:=by simpa[List.getD,li,lj]using heq
   have hp:=List.pairwise_iff_getElem.1 dc;rcases Nat.lt_trichotomy i j with A2|rfl|tv
   ·exact absurd e' (hp i j li lj A2)
   ·rfl
   ·exact absurd e'.symm (hp j i lj li tv)
  ·exact U3.bF _ b (C0 i hi).2 (dA i b B9).2
  ·have:=U3.bB _ b (dA i b B9).2;exact⟨this.2,this.1⟩
 rintro e a' w' hq;cases e with
 | normal =>
  obtain⟨S',h1,β',F',O5⟩:=hq;simp only[]at h1;split at h1
  ·exact fin O5 ‹_› h1
  ·exact h1.elim
 | ret =>
  obtain⟨S',h1,β',F',O5⟩:=hq;simp only[]at h1;split at h1
  ·exact fin O5 ‹_› h1
  ·exact h1.elim
 | exit i=>obtain⟨S',h1,_⟩:=hq;exact h1.elim
 | goto l=>exact hq.elim
 | panic ch=>exact hq.elim
 | outgrown=>exact hq.elim
end

end Go.Ev
