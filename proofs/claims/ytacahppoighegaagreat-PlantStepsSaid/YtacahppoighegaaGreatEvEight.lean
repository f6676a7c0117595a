/- Helper lemmas. -/
import Derived.Test.YtacahppoighegaaGreatEvFive
set_option linter.unusedVariables false
set_option linter.unusedSimpArgs false
/- The executor where function values hold on to what is not frozen. A helper text: it speaks of no program. -/
namespace Go.Ev
def MD:Row->Prop
 | .vec _ _ _ _ l=>l.length=0
 | .nest _ _ _ _ _ _ _ _ l=>l.length=0
 | _=>False
def gS(P:Program)(o:Oper)(S:St)(K:St->Out->Prop):Prop :=
 match o.op with
 | .makeFunc f xs ys=>K S ⟨.fn f (xs.toList.map S.get) (ys.toList.map S.get),[]⟩
 | .binOp op t x y yt=>match S.get y with
  | .nils=>match S.get x with
   | .sl _ _ _ l=>match P.underlying t with
    | some (.slice _)=>sZ op l fun v=>K S ⟨v,[]⟩
    | _=>False
   | .own id=>match S.row id with
    | .vec _ _ _ _ l=>match P.underlying t with
     | some (.slice _)=>sZ op l fun v=>K S ⟨v,[]⟩
     | _=>False
    | _=>False
   | _=>gM P o.dst (.binOp op t x y yt) S.get S.row fun out _=>K S out
  | _=>gM P o.dst (.binOp op t x y yt) S.get S.row fun out _=>K S out
 | .call c=>match c.callee with
  | .value f=>match S.get f with
   | .fn (.func _) first B2=>(match G8 (first++c.args.toList.map S.get++B2)with
    | true=>gM P o.dst (.call c) S.get S.row fun out _=>K S out
    | false=>∃ frz:Bool,match frz with
     | false=>gM P o.dst (.call c) S.get S.row fun out _=>K S out
     | true=>jC (S.freeze (jm ((first++c.args.toList.map S.get++B2).flatMap (N1 4 S.row)))) fun S=>gM P o.dst (.call c) S.get S.row fun out _=>K S out)∨Wy P c f S K
   | .fn (.yield l) [] []=>match S.row S.t.length with
    | .ctr l' xs k false=>(l=l'/\xs[k]? = some (c.args.toList.map S.get)/\dY (c.args.toList.map S.get)=true)/\K S ⟨.tt,[(S.t.length,.ctr l' xs (k+1) false)]⟩/\K S ⟨.ff,[(S.t.length,.ctr l' xs (k+1) true)]⟩
    | _=>False
   | _=>False
  | _=>gM P o.dst (.call c) S.get S.row fun out _=>K S out
 | .assign x=>match S.get x,o.dst with
  | .nils,some d=>gM P o.dst o.op S.get S.row (fun out _=>K S out)∨(A3 S d=true/\∃ r:Row,MD r/\jC (S.kill d) fun S'=>K S' ⟨.own d,[(d,r)]⟩)
  | _,_=>gM P o.dst o.op S.get S.row fun out _=>K S out
 | op=>gM P o.dst op S.get S.row fun out _=>K S out
def ME(P:Program)(o:Oper)(S:St)(K:St->Out->Prop):Prop :=
 match Y9 o.op with
 | true=>match o.dst with
  | some d=>match A3 S d with
   | true=>jC (S.kill d) fun S=>gS P o S K
   | false=>False
  | none=>gS P o S K
 | false=>gS P o S K
def tG(P:Program)(all:List Oper):List Oper->Nat->St->(St->Prop)->Prop
 | [],_,S,K=>K S
 | o :: l,k,S,K=>match gw all.toArray S o with
  | some true=>ME P o S fun S out=>Z3 (qF all k) out fun out=>po S o.dst out fun S=>tG P all l (k+1) S K
  | some false=>po S o.dst ⟨.tup [],[]⟩ fun S=>tG P all l (k+1) S K
  | none=>False
def mq(P:Program):Code->St->(Ex->St->Prop)->Prop
 | .skip,S,Q=>Q .norm S
 | .label _,S,Q=>Q .norm S
 | .region _ ops draw,S,Q=>match draw with
  | false=>tG P ops.toList ops.toList 0 S fun S=>jC S (Q .norm)
  | true=>(xb P ops && (dj P ops.toList).all (A3 S) && kE ops.toList)=true/\jC (S.kills (dj P ops.toList)) fun S=>fZ P [] ops.toList ops.toList 0 S [] fun S=>jC S (Q .norm)
 | .seq a b,S,Q=>mq P a S fun e S=>match e with
  | .norm=>mq P b S Q
  | e=>Q e S
 | .cond c a b,S,Q=>match S.get c with
  | .tt=>mq P a S Q
  | .ff=>mq P b S Q
  | .bool x=>(x=true->mq P a S Q)/\(x=false->mq P b S Q)
  | _=>False
 | .scope c,S,Q=>mq P c S Q
 | .block id c,S,Q=>mq P c S fun e S=>match e with
  | .exit i=>match Nat.beq i id with
   | true=>Q .norm S
   | false=>Q (.exit i) S
  | e=>Q e S
 | .loop c,S,Q=>(∃ n,Qf (mq P c) n S Q) ∨
   ∃ (ι:Type) (ws bs:List Nat) (vs:List (Nat×VT)) (V:ι->List AV) (BR VR:ι->List Row) (μ:ι->Nat) (I:ι->Prop),Ue (aD c) fun ds=>jC (canonV vs S) fun S0 =>
    (∃ i,iO ds S0 ws bs vs S fun Q9 F7 I5=>I i/\Q9=V i/\F7=BR i/\I5=VR i) /\
    ∀ i,I i->jC (N3 ds S0 ws bs vs (V i) (BR i) (VR i)) fun S1=>mq P c S1 fun e S2=>match e with
     | .norm=>∃ i',iO ds S0 ws bs vs S2 fun Q9 F7 I5=>(μ i' < μ i/\I i')/\Q9=V i'/\F7=BR i'/\I5=VR i'
     | e=>Q e S2
 | .rangeFunc _ _ _ _,_,_=>False
 | .ret,S,Q=>Q .ret S
 | .exit id,S,Q=>Q (.exit id) S
 | _,_,_=>False
def GU(P:Program)(fn:Func)(args:List AV)(res:AV):Prop :=
 match fn.body with
 | none=>False
 | some c=>jC ⟨args++List.replicate (fn.ntmps-args.length) .any,List.replicate fn.ntmps .none,.plain⟩ fun S=>mq P c S fun e S=>match e with
  | .exit _=>False
  | _=>match dA P S fn.results.toList with
   | some l=>DT (fF l).fin fun v=>v=res
   | none=>False
def zE(P:Program)(fn:Func)(args:List AV)(ins:List Row)(res:AV)(o9:List Row):Prop :=
 match fn.body with
 | none=>False
 | some c=>(av ins.length args && ins.all (fun r=>D9 ins.length r && r.live) && Nat.ble args.length fn.ntmps)=true /\
  jC ⟨au (List.range' fn.ntmps ins.length) args++List.replicate (fn.ntmps-args.length) .any,List.replicate fn.ntmps .none++ins.map (A0 (List.range' fn.ntmps ins.length)),.plain⟩ fun S=>mq P c S fun e S=>match e with
  | .exit _=>False
  | _=>match bN P S fn.results.toList with
   | some l=>∃ news:List Nat,(aw (List.range' fn.ntmps ins.length++news) && Nat.beq o9.length (List.range' fn.ntmps ins.length++news).length && res.under o9.length && o9.all (D9 o9.length))=true /\
     DT (fF l).fin fun v=>v=res.ren (List.range' fn.ntmps ins.length++news)/\(List.range' fn.ntmps ins.length++news).map S.row=o9.map (A0 (List.range' fn.ntmps ins.length++news))
   | none=>False
/- The executor where function values hold on to what is not frozen: it is sound. A helper text: it speaks of no program. -/
section
variable {P:Program}{B:Nat->Prop}{w0:World}{F0:Env P}{S:St}{β:Nat->Option Hd}{F:Nat->Prop}{a:Act}{w:World}{ops:Array Oper}
theorem vT{o:Oper}{K:St->Out->Prop}(h:gS P o S K):∀ c,o.op ≠ .defer c:=by
 intro c e;unfold gS at h;rw[e]at h;exact h
theorem EP(hR:Rel B w0 F0 S β F a w){o:Oper}{x:Operand}(ho:o.op = .assign x)(hx:S.get x = .nils){d:Nat}(hd:o.dst=some d)(hk:A3 S d=true){r:Row}(hr:MD r){K:St->Out->Prop}(hK:K (S.kill d) ⟨.own d,[(d,r)]⟩){Q:Exit->Act->World->Prop} :
  o.wp P a w (T6 B w0 F0 o.dst K) Q:=by
 have hv:=hR.get x;rw[hx]at hv;have Ia:=hR.topn d hk;obtain⟨β1,k1,k2,iF⟩:=hR.kill d Ia
 let β':Nat->Option Hd:=fun j=>if j=d then some ⟨none,0,0,jr⟩else β1 j
 have b1:β' d=some ⟨none,0,0,jr⟩:=by simp[β']
 have b2:∀ j,j≠d->β' j=β1 j:=fun j hj=>by simp[β',hj]
 have b3:∀ j,β1 j≠none->β' j=β1 j:=fun j hj=>b2 j fun e=>hj (e ▸ k1)
 have b4:∀ j b,x7 β' j b->j≠d/\x7 β1 j b:=fun j b h=>by
  by_cases e:j=d
  ·subst e;rw[x7,b1]at h;simp at h
  ·exact⟨e,by rw[x7,b2 j e]at h;exact h⟩
 refine fV (v:=a.eval x) (w':=w) (by simp[execOp,ho]) ⟨S.kill d,_,hK,β',F,?_⟩;rw[hv.nils_inv];have jO:=iF.still (dst:=o.dst) (x := .nils) (v := .slice none 0 0) (.imm .nils);have hlen:((S.kill d).put o.dst ⟨.own d,[(d,r)]⟩).t.length=((S.kill d).put o.dst ⟨.nils,[]⟩).t.length:=by simp[St.put,fO,hd]
 have A1:∀ j,((S.kill d).put o.dst ⟨.own d,[(d,r)]⟩).row j=if d=j/\d<(S.kill d).h.length then r else(S.kill d).row j:=fun j=>by
  show(r8 (S.kill d).h [(d,r)]).getD j .none=_
  simp only[r8,r7];rfl
 have live:∀ j,((S.kill d).put o.dst ⟨.own d,[(d,r)]⟩).row j ≠ .none->j≠d->(S.kill d).row j ≠ .none:=fun j h hj=>by
  rw[A1,if_neg (fun e=>hj e.1.symm)]at h;exact h
 refine jO.trade hlen rfl (fun i hi=>?_) (fun j=>?_) (fun i j b hi hj B3 P6=>?_) (fun i b hi B3=>?_) (fun i b B3=>⟨i,(b4 i b B3).2⟩) (fun j hd' hj=>?_) (fun id l xs k e h=>?_)
 ·have hs:=jO.slots i hi;show C4 β' F w ((fO (S.kill d).t o.dst (.own d)).getD i .any) _
  have Pz:C4 β1 F w ((fO (S.kill d).t o.dst .nils).getD i .any) ((a.put o.dst (.slice none 0 0)).tmps.getD i undef):=hs;rw[aC]at Pz ⊢;by_cases e:o.dst=some i/\i<(S.kill d).t.length
  ·rw[if_pos e]at Pz ⊢;rw[Pz.nils_inv];exact .own b1
  ·rw[if_neg e]at Pz ⊢;exact Pz.grow b3 (fun _ h=>h) (C5.refl _ _)
 ·rw[A1];split
  ·rename_i e;rw[<- e.1];cases r with
   | vec ty sz d0 enc l =>
    have:l=[]:=List.eq_nil_of_length_eq_zero hr;subst this;exact⟨_,b1,rfl,rfl,.inl ⟨rfl,rfl,rfl⟩⟩
   | nest ty sz j0 G7 d0 enc ys ho l =>
    have:l=[]:=List.eq_nil_of_length_eq_zero hr;subst this;exact⟨_,b1,rfl,.inl ⟨rfl,rfl,rfl,rfl⟩⟩
   | _=>exact hr.elim
  ·exact(iF.rows j).grow b3 (fun _ h=>h) (C5.refl _ _) (fun _ _=>rfl)
 ·obtain⟨e1,h1⟩:=b4 i b B3;obtain⟨e2,h2⟩:=b4 j b P6;exact iF.inj i j b (live i hi e1) (live j hj e2) h1 h2
 ·obtain⟨e1,h1⟩:=b4 i b B3;exact⟨i,live i hi e1,h1⟩
 ·have e:j≠d:=fun e=>by subst e;rw[Ia]at hj;cases hj
  rw[b2 j e];exact iF.top j hd' hj
 ·rw[A1]at h;split at h
  ·subst h;exact hr.elim
  ·exact h
theorem pA(hR:Rel B w0 F0 S β F a w){o:Oper}(B1:Y9 o.op=true->∀ d,o.dst=some d->β d=none){K:St->Out->Prop}(h:gS P o S K){Q:Exit->Act->World->Prop} :
  o.wpIn (FW F0.r) 0 P a w (T6 B w0 F0 o.dst K) Q:=by
 have gH:=vT h;unfold gS at h;split at h
 ·rename_i f xs ys ho;refine N4 gH ?_;have L0:execOp a.eval o=(do pure (.value (<- Instr.makeFunc f (xs.map a.eval) (ys.map a.eval)))):=by simp[execOp,ho]
  obtain⟨h1,h2⟩:=L9 hR xs;obtain⟨h3,h4⟩:=L9 hR ys;exact K3 L0 (v := .func f (xs.map a.eval) (ys.map a.eval)) (w':=w) (by simp[Instr.makeFunc]) ⟨S,_,h,β,F,hR.still (.fn h1 h2 h3 h4)⟩
 ·rename_i op t x y yt ho;refine N4 gH ?_;split at h
  ·rename_i hy;split at h
   ·rename_i α sz d enc l hx;split at h
    ·rename_i e hu;refine iP hR ho hu hy ?_ h;have:=hR.get x;rw[hx]at this;rcases this.sl_inv with ⟨h1,x0,c0,h2⟩|⟨b,ob,cap,g,h1,_⟩
     ·exact⟨_,_,_,h2,fun _=>h1⟩
     ·exact⟨_,_,_,h1,fun e=>by cases e⟩
    ·exact h.elim
   ·rename_i id hx;split at h
    ·rename_i α ty sz d enc l hr;split at h
     ·rename_i e hu;refine iP hR ho hu hy ?_ h;have:=hR.get x;rw[hx]at this;obtain⟨hd,hβ,hv⟩:=this.own_inv;obtain⟨_,q⟩:=ag hR hr hβ;refine⟨_,_,_,hv,fun e=>?_⟩;rcases q with ⟨q,_⟩|⟨b,vs,q,_⟩
      ·exact q
      ·rw[q]at e;cases e
     ·exact h.elim
    ·exact h.elim
   ·rw[<- ho]at h;exact F8 hR B1 h
  ·rw[<- ho]at h;exact F8 hR B1 h
 ·rename_i c ho;split at h
  ·rename_i f hc;split at h
   ·rename_i gC first B2 hg
    refine N4 gH ?_;rcases h with h|h
    ·split at h
     ·rw[<- ho]at h;exact F8 hR B1 h
     ·obtain⟨frz,h⟩:=h;split at h
      ·rw[<- ho]at h;exact F8 hR B1 h
      ·rw[C3,<- ho]at h;obtain⟨F',M8⟩:=hR.freeze (jm (_:List Nat));exact F8 M8 B1 h
    ·exact zh hR ho hc h
   ·rename_i l hg;split at h
    ·rename_i l' xs k A1;obtain⟨⟨rfl,hx,Ly⟩,h1,h2⟩:=h;exact xe hR ho hc hg A1 hx Ly h1 h2
    ·exact h.elim
   ·exact h.elim
  ·rw[<- ho]at h;exact N4 gH (F8 hR B1 h)
 ·rename_i x ho;refine N4 gH ?_;split at h
  ·rename_i d hx hd;rcases h with h|⟨hk,r,hr,h⟩
   ·exact F8 hR B1 h
   ·rw[C3]at h;exact EP hR ho hx hd hk hr h
  ·exact F8 hR B1 h
 ·exact N4 gH (F8 hR B1 h)
theorem MF(hR:Rel B w0 F0 S β F a w){o:Oper}{K:St->Out->Prop}(h:ME P o S K){Q:Exit->Act->World->Prop}:o.wpIn (FW F0.r) 0 P a w (T6 B w0 F0 o.dst K) Q:=by
 unfold ME at h;split at h
 ·rename_i ha;split at h
  ·rename_i d hd;split at h
   ·rename_i z8;rw[C3]at h;obtain⟨β',h1,h2,M8⟩:=hR.kill d (hR.topn d z8);exact pA M8 (fun _ d' hd'=>by rw[hd]at hd'; cases hd'; exact h1) h
   ·exact h.elim
  ·rename_i hd;exact pA hR (fun _ d' hd'=>by rw[hd]at hd'; cases hd') h
 ·rename_i ha;exact pA hR (fun Uh=>by rw[ha]at Uh; cases Uh) h
theorem pB{K:St->Prop}{Q:Exit->Act->World->Prop}(hQ:∀ S β F a w,Rel B w0 F0 S β F a w->K S->Q .normal a w):∀ (l:List Oper) (k:Nat) {S:St} {β:Nat->Option Hd} {F:Nat->Prop} {a:Act} {w:World},(∀ j,l[j]? = ops[k+j]?) ->
  Rel B w0 F0 S β F a w->tG P ops.toList l k S K->wpOpsIn (FW F0.r) 0 P ops Q (List.range' k l.length) a w
 | [],k,S,β,F,a,w,_,hR,h=>hQ _ _ _ _ _ hR h
 | o :: l,k,S,β,F,a,w,hl,hR,h=>by
  have h0:ops[k]? = some o:=by simpa using (hl 0).symm
  have mS:∀ j,l[j]? = ops[k+1+j]? := fun j=>by have:=hl (j+1);simpa[Nat.add_assoc,Nat.add_comm 1 j]using this
  simp only[zB2,List.range'_succ];simp only[wpOpsIn,h0];simp only[tG,Array.toArray_toList]at h;split at h
  ·rename_i hg;rw[dQ hR hg];simp only[if_true];refine Oper.wpIn_mono ?_ (MF hR h);rintro a' w' ⟨S',out,hK,β',F',M8⟩;obtain⟨v,hf,hK⟩:=cD hK;rw[iK]at hK;exact pB hQ l (k+1) mS (Rel.fine (x:=out.v) (rows:=out.rows) M8 hf) hK
  ·rename_i hg;rw[dQ hR hg];simp only[zB0,if_false];rw[iK]at h;exact⟨fun _ _=>trivial,pB hQ l (k+1) mS (hR.still (.imm y6.undef)) h⟩
  ·exact h.elim
end
section
variable {P:Program}{B:Nat->Prop}{w0:World}{F0:Env P}{S:St}{β:Nat->Option Hd}{F:Nat->Prop}{a:Act}{w:World}
theorem MG{c:Code}(ih:∀ {S:St} {β:Nat->Option Hd} {F:Nat->Prop} {a:Act} {w:World} {Q:Ex->St->Prop},mq P c S Q->Rel B w0 F0 S β F a w->c.wpIn (FW F0.r) 0 P (ID B w0 F0 Q) a w){Q:Ex->St->Prop} :
  ∀ (n:Nat) {S:St} {β:Nat->Option Hd} {F:Nat->Prop} {a:Act} {w:World},Qf (mq P c) n S Q->Rel B w0 F0 S β F a w->(Code.loop c).wpIn (FW F0.r) 0 P (ID B w0 F0 Q) a w:=by
 intro n S β F a w h hR;refine ah (fun n a w=>∃ S,Qf (mq P c) n S Q/\∃ β F,Rel B w0 F0 S β F a w) n ⟨S,h,β,F,hR⟩ ?_;rintro n a w ⟨S,h,β,F,hR⟩;cases n with
 | zero=>exact h.elim
 | succ n =>
  refine wpIn_mono (ih h hR) ?_;rintro e a' w' hq;cases e with
  | normal =>
   obtain⟨S',h1,β',F',h2⟩:=hq;exact⟨n,Nat.lt_succ_self n,S',h1,β',F',h2⟩
  | ret=>exact hq
  | exit i=>exact hq
  | goto l=>exact hq
  | panic ch=>exact hq
  | outgrown=>exact hq
theorem GV(hm:P.follows .mixedOrders=true):∀ (c:Code) {B:Nat->Prop} {w0:World} {F0:Env P} {S:St} {β:Nat->Option Hd} {F:Nat->Prop} {a:Act} {w:World} {Q:Ex->St->Prop},mq P c S Q->Rel B w0 F0 S β F a w->c.wpIn (FW F0.r) 0 P (ID B w0 F0 Q) a w:=by
 intro c
 induction c with
 | skip=>intro B w0 F0 S β F a w Q h hR;exact wpIn_skip (.norm hR h)
 | label l=>intro B w0 F0 S β F a w Q h hR;exact wpIn_label (.norm hR h)
 | ret=>intro B w0 F0 S β F a w Q h hR;exact wpIn_ret ⟨S,h,β,F,hR⟩
 | exit i=>intro B w0 F0 S β F a w Q h hR;exact wpIn_exit ⟨S,h,β,F,hR⟩
 | region id ops draw =>
  intro B w0 F0 S β F a w Q h hR;cases draw with
  | false =>
   refine wpIn_region ?_;rw[List.range_eq_range'];have:=pB (P:=P) (ops:=ops) (K:=fun S=>jC S (Q .norm)) (Q:=ID B w0 F0 Q) (fun S β F a w hR h=>by rw[C3]at h;exact .norm hR h) ops.toList 0 va9 hR h;simpa using this
  | true =>
   obtain⟨h1,h2⟩:=h;rw[C3]at h2;exact tc (X:=[]) (K:=fun S=>jC S (Q .norm)) hm (fun S β F a w hR h=>by rw[C3]at h;exact .norm hR h) hR ((zA2 _ _).mpr ⟨h1,rfl⟩) (by rw[List.append_nil];exact h2)
 | seq x y Ql Qm =>
  intro B w0 F0 S β F a w Q h hR;refine wpIn_seq (wpIn_mono (Ql h hR) ?_);rintro e a' w' hq;cases e with
  | normal=>obtain⟨S',h1,β',F',h2⟩:=hq;exact Qm h1 h2
  | ret=>exact hq
  | exit i=>exact hq
  | goto l=>exact hq
  | panic ch=>exact hq
  | outgrown=>exact hq
 | cond c x y Ql Qm =>
  intro B w0 F0 S β F a w Q h hR;simp only[mq]at h;have hc:=hR.get c;split at h
  ·rename_i e;rw[e]at hc;exact wpIn_cond_true hc.tt_inv (Ql h hR)
  ·rename_i e;rw[e]at hc;exact wpIn_cond_false hc.ff_inv (Qm h hR)
  ·rename_i b e;rw[e]at hc;exact wpIn_cond_split hc.bool_inv (fun hb=>Ql (h.1 hb) hR) fun hb=>Qm (h.2 hb) hR
  ·exact h.elim
 | scope x ih =>
  intro B w0 F0 S β F a w Q h hR;exact ti (ih h hR) (fun _ _ _ q=>q)
 | block id x ih =>
  intro B w0 F0 S β F a w Q h hR;refine wpIn_block (wpIn_mono (ih h hR) ?_);rintro e a' w' hq;cases e with
  | normal=>exact hq
  | ret=>exact hq
  | exit i =>
   obtain⟨S',h1,β',F',h2⟩:=hq;simp only[]at h1;cases hb:Nat.beq i id with
   | true =>
    rw[hb]at h1;have:=zA8 hb;simp only[Exit.inBlock,this,if_true];exact⟨S',h1,β',F',h2⟩
   | false =>
    rw[hb]at h1;have:=Nat.ne_of_beq_eq_false hb;simp only[Exit.inBlock,this,if_false];exact⟨S',h1,β',F',h2⟩
  | goto l=>exact hq
  | panic ch=>exact hq
  | outgrown=>exact hq
 | loop x ih =>
  intro B w0 F0 S β F a w Q h hR;rcases h with ⟨n,h⟩|⟨ι,ws,bs,vs,V,BR,VR,μ,I,h⟩
  ·exact MG ih n h hR
  ·rw[iN,C3]at h;obtain⟨⟨i,h0⟩,Mh⟩:=h;have TL:(Ev.canonV vs S).n=F0.n:=(tj vs S).trans hR.nn;obtain⟨Q9,F7,I5,⟨hI,rfl,rfl,rfl⟩,β',M8⟩:=eA TL hR h0;refine ah (fun n a w=>∃ i,μ i=n/\I i/\∃ β F,Rel B w0 F0 (N3 (aD x) (Ev.canonV vs S) ws bs vs (V i) (BR i) (VR i)) β F a w) (μ i) ⟨i,rfl,hI,β',F,M8⟩ ?_;rintro n a w ⟨i,rfl,hI,β',F,M8⟩;have h1:=Mh i hI;rw[C3]at h1;refine wpIn_mono (ih h1 M8) ?_;rintro e a' w' hq;cases e with
   | normal =>
    obtain⟨S',⟨i',h1⟩,β',F',h2⟩:=hq;obtain⟨Q9,F7,I5,⟨⟨z8,Ul⟩,rfl,rfl,rfl⟩,β',M8⟩:=eA TL h2 h1;exact⟨_,z8,i',rfl,Ul,β',F',M8⟩
   | ret=>exact hq
   | exit i=>exact hq
   | goto l=>exact hq
   | panic ch=>exact hq
   | outgrown=>exact hq
 | rangeFunc g ps assign nC Zj Zk =>
  intro B w0 F0 S β F a w Q h hR;exact h.elim
 | _=>intro B w0 F0 S β F a w Q h;exact h.elim
end
section
variable {P:Program}{B:Nat->Prop}{w0:World}{F0:Env P}{S:St}{β:Nat->Option Hd}{F:Nat->Prop}{a:Act}{w:World}
theorem Cf(hm:P.follows .mixedOrders=true){f:FuncId}{fn:Func}{args:List AV}{res:AV}(hf:P.funcs[f]? = some fn)(J7:(fn.name == "runtime.NumGoroutine")=false) (h:GU P fn args res):PC P f args res:=by
 intro F w vs hF G0 T1;unfold GU at h;split at h
 ·exact h.elim
 ·rename_i c hb;refine .inl ⟨Go.MuLone.run_callFunc_enter hf J7 hb vs w,callsIn_wide.1 (callsIn_of_wp_marks (n:=0) hf hb trivial ?_)⟩;rw[C3]at h;have hR:Rel (fun b=>w.heap.size<=b) w (Env.plain P F (fun _=>none) none .plain (fun _=>rfl)) ⟨args++List.replicate (fn.ntmps-args.length) .any,List.replicate fn.ntmps .none,.plain⟩ (fun _=>none) F { tmps:=vs++Array.replicate (fn.ntmps-vs.size) undef,defers:=[] } w:={
   len:=by simp[G0]
   slots:=fun i hi=>by
    by_cases z8:i<args.length
    ·have:=T1 i z8;have e1:(args++List.replicate (fn.ntmps-args.length) AV.any).getD i .any=args.getD i .any:=by simp[List.getD,List.getElem?_append,z8]
     have e2:(vs++Array.replicate (fn.ntmps-vs.size) undef).getD i undef=vs.getD i undef:=by
      simp[Array.getD_eq_getD_getElem?,Array.getElem?_append,show i<vs.size by omega]
     rw[e1,e2];exact .imm this
    ·have e1:(args++List.replicate (fn.ntmps-args.length) AV.any).getD i .any = .any:=by
      simp only[List.getD,List.getElem?_append,z8,if_false,List.getElem?_replicate];split<;>rfl
     rw[e1];exact .imm (.any _)
   marks:=⟨[],⟨rfl,fun _=>rfl⟩,.nil,by simp⟩
   rows:=fun i=>by
    have:(St.row ⟨args++List.replicate (fn.ntmps-args.length) .any,List.replicate fn.ntmps .none,.plain⟩ i) = .none:=by
     simp only[St.row,List.getD,List.getElem?_replicate];split<;>rfl
    rw[this];trivial
   inj:=fun i j b _ _ h=>by simp[x7]at h
   bF:=fun i b _ h=>by simp[x7]at h
   bB:=fun i b h=>by simp[x7]at h
   FB:=fun b hb=>⟨hF b hb,.inl hb⟩
   below := .refl _ _
   BW:=fun _ h=>h
   top:=fun _ _ h=>by cases h
   topn:=fun _ _=>rfl
   nn:=rfl
   inc:=fun _ h=>h
   keep:=C5.refl _ _
   sol:=fun _ _ _ h _=>h
   yl:=fun id l xs k e h=>by
    have:(St.row ⟨args++List.replicate (fn.ntmps-args.length) .any,List.replicate fn.ntmps .none,.plain⟩ id) = .none:=by
     simp only[St.row,List.getD,List.getElem?_replicate];split<;>rfl
    rw[this]at h;cases h }
  refine wpIn_mono (GV hm c h hR) ?_;have fin:∀ {S β F' a' w'} {r:List AV},Rel (fun b=>w.heap.size<=b) w (Env.plain P F (fun _=>none) none .plain (fun _=>rfl)) S β F' a' w'->dA P S fn.results.toList=some r->DT (fF r).fin (fun v=>v=res) ->
    LeavesInM Fence.wide 0 P fn a'.tmps (fun e w'=>∃ v,e = .returned v/\RowKit.Below w.heap.size w w'/\y6 (fun b=>F b∨w.heap.size<=b) w' res v) a'.defers .returning w':=by
   intro S β F' a' w' r M8 hr hv;rw[dZ]at hv;obtain⟨t,ds⟩:=a';refine dR ds M8 fun Zn W5 => ?_
   obtain⟨v,h1,h2⟩:=jT W5 hr;rw[hv]at h2;exact⟨v,h1,v,rfl,W5.below.below,h2.mono (fun b hb=>by
    rcases hb with hb|⟨i,_,hb⟩
    ·exact(W5.FB b hb).2
    ·exact .inr (W5.bB i b hb).1) (fun _ _ _ _ h=>h)⟩
  rintro e a' w' hq;cases e with
  | normal =>
   obtain⟨S',h1,β',F',M8⟩:=hq;simp only[]at h1;split at h1
   ·exact fin M8 ‹_› h1
   ·exact h1.elim
  | ret =>
   obtain⟨S',h1,β',F',M8⟩:=hq;simp only[]at h1;split at h1
   ·exact fin M8 ‹_› h1
   ·exact h1.elim
  | exit i=>obtain⟨S',h1,_⟩:=hq;exact h1.elim
  | goto l=>exact hq.elim
  | panic ch=>exact hq.elim
  | outgrown=>exact hq.elim
theorem Cg(hm:P.follows .mixedOrders=true){f:FuncId}{fn:Func}{args:List AV}{ins o9:List Row}{res:AV}(hf:P.funcs[f]? = some fn)(J7:(fn.name == "runtime.NumGoroutine")=false) (h:zE P fn args ins res o9):PW P f args ins res o9:=by
 intro F w vs β hF G0 T1 L6;unfold zE at h;split at h
 ·exact h.elim
 rename_i c hb;obtain⟨Mi,h⟩:=h;simp only[zA2]at Mi;obtain⟨⟨c1,c2⟩,c3⟩:=Mi;have c3:=Nat.le_of_ble_eq_true c3;refine⟨Go.MuLone.run_callFunc_enter hf J7 hb vs w,callsIn_wide.1 (callsIn_of_wp_marks (n:=0) hf hb trivial ?_)⟩;rw[C3]at h;obtain⟨sh,GL⟩:∃ sh,List.range' fn.ntmps ins.length=sh:=⟨_,rfl⟩
 rw[GL]at h;have shl:sh.length=ins.length:=by rw[<- GL];simp
 have Qn:∀ k,k<ins.length->sh.getD k 0=fn.ntmps+k:=fun k hk=>by rw[<- GL];exact qI _ _ _ hk
 have jS:∀ k,k<ins.length->D9 ins.length (ins.getD k .none)=true/\ins.getD k .none ≠ .none:=fun k hk=>by
  have Es:ins.getD k .none ∈ ins:=by simp[List.getD,hk]
  have:=List.all_eq_true.1 c2 _ Es;simp only[zA2]at this;exact⟨this.1,fun e=>by rw[e]at this;simp[Row.live]at this⟩
 let β0:Nat->Option Hd:=fun j=>if fn.ntmps<=j then β (j-fn.ntmps)else none
 have b0:∀ k,β0 (fn.ntmps+k)=β k:=fun k=>by simp[β0]
 have b0':∀ j,j<fn.ntmps->β0 j=none:=fun j hj=>by simp[β0,Nat.not_le.2 hj]
 have Mj:∀ i b,x7 β0 i b->fn.ntmps<=i/\x7 β (i-fn.ntmps) b:=fun i b hb=>by
  by_cases hle:fn.ntmps<=i
  ·exact⟨hle,by simpa[x7,β0,hle]using hb⟩
  ·simp[x7,β0,hle]at hb
 have A1:∀ (t:List AV) id,(St.row ⟨t,List.replicate fn.ntmps .none++ins.map (A0 sh),.plain⟩ id)=if fn.ntmps<=id then A0 sh (ins.getD (id-fn.ntmps) .none)else .none:=fun t id=>by
  simp only[St.row,List.getD];by_cases hle:fn.ntmps<=id
  ·rw[List.getElem?_append_right (by simpa using hle)];simp only[List.length_replicate,List.getElem?_map,hle,if_true];cases ins[id-fn.ntmps]? <;> simp[A0]
  ·rw[List.getElem?_append_left (by simpa using hle)];simp[hle,List.getElem?_replicate,Nat.lt_of_not_le hle]
 have hR:Rel (fun b=>w.heap.size<=b∨jE β b) w (Env.plain P F β0 none .plain (fun _=>rfl)) ⟨au sh args++List.replicate (fn.ntmps-args.length) .any,List.replicate fn.ntmps .none++ins.map (A0 sh),.plain⟩ β0 F { tmps:=vs++Array.replicate (fn.ntmps-vs.size) undef,defers:=[] } w:={
  len:=by simp[G0,u9]
  slots:=fun i hi=>by
   by_cases z8:i<args.length
   ·have:=T1 i z8;have e1:(au sh args++List.replicate (fn.ntmps-args.length) AV.any).getD i .any=(args.getD i .any).ren sh:=by
     rw[<- E4];simp[List.getD,List.getElem?_append,u9,z8]
    have e2:(vs++Array.replicate (fn.ntmps-vs.size) undef).getD i undef=vs.getD i undef:=by
     simp[Array.getD_eq_getD_getElem?,Array.getElem?_append,show i<vs.size by omega]
    rw[e1,e2];exact this.ren (n:=ins.length) (fun k hk hd h=>by rw[Qn k hk,b0];exact h) (F6 c1 i)
   ·have e1:(au sh args++List.replicate (fn.ntmps-args.length) AV.any).getD i .any = .any:=by
     simp only[List.getD,List.getElem?_append,u9,z8,if_false,List.getElem?_replicate];split<;>rfl
    rw[e1];exact .imm (.any _)
  marks:=⟨[],⟨rfl,fun _=>rfl⟩,.nil,by simp⟩
  rows:=fun id=>by
   rw[A1];split
   ·rename_i hle;by_cases z8:id-fn.ntmps<ins.length
    ·have:=mg (ids:=sh) (n:=ins.length) (β':=β0) (fun k hk hd h=>by rw[Qn k hk,b0];exact h) z8 (L6.rows (id-fn.ntmps)) (jS _ z8).1;rw[Qn _ z8,show fn.ntmps+(id-fn.ntmps)=id by omega]at this;exact this
    ·have:ins.getD (id-fn.ntmps) .none = .none:=by simp[List.getD,zA7 (Nat.le_of_not_lt z8)]
     rw[this];trivial
   ·trivial
  inj:=fun i j b hi hj B3 P6=>by
   obtain⟨h1,h2⟩:=Mj i b B3;obtain⟨h3,h4⟩:=Mj j b P6;rw[A1,if_pos h1]at hi;rw[A1,if_pos h3]at hj;have:=L6.inj _ _ b (fun e=>hi (O9.2 e)) (fun e=>hj (O9.2 e)) h2 h4;omega
  bF:=fun i b hi B3=>by
   obtain⟨h1,h2⟩:=Mj i b B3;rw[A1,if_pos h1]at hi;exact L6.bF _ b (fun e=>hi (O9.2 e)) h2
  bB:=fun i b h=>⟨.inr ⟨_,(Mj i b h).2⟩,L6.bB _ b (Mj i b h).2⟩
  FB:=fun b hb=>⟨hF b hb,.inl hb⟩
  below := .refl _ _
  BW:=fun _ h => .inl h
  top:=fun _ _ h=>h
  topn:=fun j hj=>by
   simp only[A3]at hj;split at hj
   ·rename_i z8;simp only[List.length_append,u9,List.length_replicate,Nat.blt_eq]at z8;exact b0' j va5
   ·cases hj
  nn:=rfl
  inc:=fun _ h=>h
  keep:=C5.refl _ _
  sol:=fun _ _ _ h _=>h
  yl:=fun id l xs k e h=>by
   rw[A1]at h;split at h
   ·by_cases z8:id-fn.ntmps<ins.length
    ·have hu:=(jS _ z8).1;cases hr:ins.getD (id-fn.ntmps) .none<;>rw[hr]at h hu<;>simp[A0,D9]at h hu
    ·have:ins.getD (id-fn.ntmps) .none = .none:=by simp[List.getD,zA7 (Nat.le_of_not_lt z8)]
     rw[this]at h;cases h
   ·cases h }
 refine wpIn_mono (GV hm c h hR) ?_;have fin:∀ {S β1 F' a' w'} {l:List AV},Rel (fun b=>w.heap.size<=b∨jE β b) w (Env.plain P F β0 none .plain (fun _=>rfl)) S β1 F' a' w'->bN P S fn.results.toList=some l ->
   (∃ news:List Nat,(aw (sh++news) && Nat.beq o9.length (sh++news).length && res.under o9.length && o9.all (D9 o9.length))=true/\DT (fF l).fin fun v=>v=res.ren (sh++news)/\(sh++news).map S.row=o9.map (A0 (sh++news))) ->
   LeavesInM Fence.wide 0 P fn a'.tmps (fun e w'=>∃ v β' F',e = .returned v/\H3 (fun b=>w.heap.size<=b∨jE β b) w w'/\(∀ k hd,β k=some hd->β' k=some hd)/\(∀ b,F b->F' b) /\
    (∀ b,F' b->b<w'.heap.size/\(F b∨w.heap.size<=b∨jE β b))/\C4 β' F' w' res v/\(∀ k,y8 β' F' w' k (o9.getD k .none)) /\
    (∀ i j b,o9.getD i .none ≠ .none->o9.getD j .none ≠ .none->x7 β' i b->x7 β' j b->i=j)/\(∀ i b,o9.getD i .none ≠ .none->x7 β' i b->¬ F' b) /\
    (∀ i b,x7 β' i b->b<w'.heap.size/\(w.heap.size<=b∨jE β b))) a'.defers .returning w':=by
  rintro S β1 F' a' w' l M8 hl ⟨news,Uq,hv⟩;rw[dZ]at hv;obtain⟨hv,Mk⟩:=hv;simp only[zA2]at Uq;obtain⟨⟨⟨d1,d2⟩,d3⟩,d4⟩:=Uq;have d2:=zA8 d2;have gH:=iQ d1;obtain⟨t,ds⟩:=a';refine dR ds M8 fun Zn W5 => ?_
  obtain⟨v,h1,h2⟩:=nD W5 hl;rw[hv]at h2;obtain⟨al,Gx⟩:∃ al,sh++news=al:=⟨_,rfl⟩
  rw[Gx]at gH d2 h2 Mk;have alk:∀ k,k<ins.length->al.getD k 0=fn.ntmps+k:=fun k hk=>by
   rw[<- Qn k hk,<- Gx];simp[List.getD,List.getElem?_append,shl,hk]
  have a0T:ins.length<=al.length:=by rw[<- Gx,List.length_append,shl];omega
  let β2:Nat->Option Hd:=fun k=>if k<al.length then β1 (al.getD k 0)else none
  have e2:∀ k,k<o9.length->β2 k=β1 (al.getD k 0):=fun k hk=>by simp[β2,<- d2,hk]
  have cJ:∀ k b,x7 β2 k b->k<o9.length/\x7 β1 (al.getD k 0) b:=fun k b hb=>by
   by_cases z8:k<o9.length
   ·exact⟨z8,by simpa[x7,e2 k z8]using hb⟩
   ·simp[x7,β2,<- d2,z8]at hb
  have BX:∀ k,k<o9.length->S.row (al.getD k 0)=A0 al (o9.getD k .none):=fun k hk=>by
   have:(al.map S.row).getD k .none=(o9.map (A0 al)).getD k .none:=by rw[Mk]
   simpa[List.getD,List.getElem?_map,hk,d2 ▸ hk]using this
  have A5:∀ k,o9.getD k .none ≠ .none->k<o9.length/\S.row (al.getD k 0) ≠ .none:=fun k hk=>by
   by_cases z8:k<o9.length
   ·exact⟨z8,by rw[BX k z8];exact fun e=>hk (O9.1 e)⟩
   ·exact absurd (by simp[List.getD,zA7 (Nat.le_of_not_lt z8)]) hk
  refine⟨v,h1,v,β2,F',rfl,W5.below,fun k hd hk=>?_,W5.inc,W5.FB,h2.unren e2 d3 rfl,fun k=>?_,fun i j b hi hj B3 P6=>?_,fun i b hi B3=>?_,fun i b B3=>?_⟩
  ·have z8:k<ins.length:=by
    rcases Nat.lt_or_ge k ins.length with h|h
    ·exact h
    ·have:=L6.dead k (by simp[List.getD,zA7 h]);rw[this]at hk;cases hk
   have:=W5.top (fn.ntmps+k) hd (by show β0 (fn.ntmps+k)=some hd;rw[b0];exact hk);rw[e2 k va5,alk k z8];exact this
  ·by_cases z8:k<o9.length
   ·have:=W5.rows (al.getD k 0);rw[BX k z8]at this;exact iH e2 z8 (List.all_eq_true.1 d4 _ (by simp[List.getD,z8])) this
   ·have:o9.getD k .none = .none:=by simp[List.getD,zA7 (Nat.le_of_not_lt z8)]
    rw[this];trivial
  ·obtain⟨l1,r1⟩:=A5 i hi;obtain⟨l2,r2⟩:=A5 j hj;have heq:=W5.inj _ _ b r1 r2 (cJ i b B3).2 (cJ j b P6).2;have li:i<al.length:=by omega
   have lj:j<al.length:=by omega
   have e':al[i]=al[j]:=by simpa[List.getD,li,lj]using heq
   have hp:=List.pairwise_iff_getElem.1 gH;rcases Nat.lt_trichotomy i j with z8|rfl|sJ
   ·exact absurd e' (hp i j li lj z8)
   ·rfl
   ·exact absurd e'.symm (hp j i lj li sJ)
  ·exact W5.bF _ b (A5 i hi).2 (cJ i b B3).2
  ·have:=W5.bB _ b (cJ i b B3).2;exact⟨this.2,this.1⟩
 rintro e a' w' hq;cases e with
 | normal =>
  obtain⟨S',h1,β',F',M8⟩:=hq;simp only[]at h1;split at h1
  ·exact fin M8 ‹_› h1
  ·exact h1.elim
 | ret =>
  obtain⟨S',h1,β',F',M8⟩:=hq;simp only[]at h1;split at h1
  ·exact fin M8 ‹_› h1
  ·exact h1.elim
 | exit i=>obtain⟨S',h1,_⟩:=hq;exact h1.elim
 | goto l=>exact hq.elim
 | panic ch=>exact hq.elim
 | outgrown=>exact hq.elim
end

end Go.Ev
