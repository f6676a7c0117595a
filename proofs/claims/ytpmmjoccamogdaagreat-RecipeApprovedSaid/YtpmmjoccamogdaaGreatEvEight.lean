/- Helper lemmas. -/
import Derived.Test.YtpmmjoccamogdaaGreatEvFive
set_option linter.unusedVariables false
set_option linter.unusedSimpArgs false
/- The executor where function values hold on to what is not frozen. A helper text: it speaks of no program. -/
namespace Go.Ev
def xI:Row->Prop
 | .vec _ _ _ _ l=>l.length=0
 | .nest _ _ _ _ _ _ _ _ l=>l.length=0
 | _=>False
def aQ (P:Program) (o:Oper) (S:St) (K:St->Out->Prop):Prop :=
 match o.op with
 | .makeFunc f xs ys=>K S ⟨.fn f (xs.toList.map S.get) (ys.toList.map S.get),[]⟩
 | .binOp op t x y yt=>match S.get y with
  | .nils=>match S.get x with
   | .sl _ _ _ l=>match P.underlying t with
    | some (.slice _)=>jq op l fun v=>K S ⟨v,[]⟩
    | _=>False
   | .own id=>match S.row id with
    | .vec _ _ _ _ l=>match P.underlying t with
     | some (.slice _)=>jq op l fun v=>K S ⟨v,[]⟩
     | _=>False
    | _=>False
   | _=>aG P o.dst (.binOp op t x y yt) S.get S.row fun out _=>K S out
  | _=>aG P o.dst (.binOp op t x y yt) S.get S.row fun out _=>K S out
 | .call c=>match c.callee with
  | .value f=>match S.get f with
   | .fn (.func _) first u4=>(match B4 (first++c.args.toList.map S.get++u4) with
    | true=>aG P o.dst (.call c) S.get S.row fun out _=>K S out
    | false=>∃ frz:Bool,match frz with
     | false=>aG P o.dst (.call c) S.get S.row fun out _=>K S out
     | true=>cb (S.freeze (bN ((first++c.args.toList.map S.get++u4).flatMap (E7 4 S.row)))) fun S=>aG P o.dst (.call c) S.get S.row fun out _=>K S out)∨Ek P c f S K
   | .fn (.yield l) [] []=>match S.row S.t.length with
    | .ctr l' xs k false=>(l=l'/\xs[k]? = some (c.args.toList.map S.get)/\Y7 (c.args.toList.map S.get)=true)/\K S ⟨.tt,[(S.t.length,.ctr l' xs (k + 1) false)]⟩/\K S ⟨.ff,[(S.t.length,.ctr l' xs (k + 1) true)]⟩
    | _=>False
   | _=>False
  | _=>aG P o.dst (.call c) S.get S.row fun out _=>K S out
 | .assign x=>match S.get x,o.dst with
  | .nils,some d=>aG P o.dst o.op S.get S.row (fun out _=>K S out)∨(u3 S d=true/\∃ r:Row,xI r/\cb (S.kill d) fun S'=>K S' ⟨.own d,[(d,r)]⟩)
  | _,_=>aG P o.dst o.op S.get S.row fun out _=>K S out
 | op=>aG P o.dst op S.get S.row fun out _=>K S out
def xJ (P:Program) (o:Oper) (S:St) (K:St->Out->Prop):Prop :=
 match N2 o.op with
 | true=>match o.dst with
  | some d=>match u3 S d with
   | true=>cb (S.kill d) fun S=>aQ P o S K
   | false=>False
  | none=>aQ P o S K
 | false=>aQ P o S K
def jK (P:Program) (all:List Oper):List Oper->Nat->St->(St->Prop)->Prop
 | [],_,S,K=>K S
 | o :: l,k,S,K=>match gw all.toArray S o with
  | some true=>xJ P o S fun S out=>N7 (gW all k) out fun out=>fV S o.dst out fun S=>jK P all l (k + 1) S K
  | some false=>fV S o.dst ⟨.tup [],[]⟩ fun S=>jK P all l (k + 1) S K
  | none=>False
def dZ (P:Program):Code->St->(Ex->St->Prop)->Prop
 | .skip,S,Q=>Q .norm S
 | .label _,S,Q=>Q .norm S
 | .region _ ops draw,S,Q=>match draw with
  | false=>jK P ops.toList ops.toList 0 S fun S=>cb S (Q .norm)
  | true=>(lY P ops && (V5 P ops.toList).all (u3 S) && cL ops.toList)=true/\cb (S.kills (V5 P ops.toList)) fun S=>av P ops.toList ops.toList 0 S [] fun S=>cb S (Q .norm)
 | .seq a b,S,Q=>dZ P a S fun e S=>match e with
  | .norm=>dZ P b S Q
  | e=>Q e S
 | .cond c a b,S,Q=>match S.get c with
  | .tt=>dZ P a S Q
  | .ff=>dZ P b S Q
  | .bool x=>(x=true->dZ P a S Q)/\(x=false->dZ P b S Q)
  | _=>False
 | .scope c,S,Q=>dZ P c S Q
 | .block id c,S,Q=>dZ P c S fun e S=>match e with
  | .exit i=>match Nat.beq i id with
   | true=>Q .norm S
   | false=>Q (.exit i) S
  | e=>Q e S
 | .loop c,S,Q=>(∃ n,An (dZ P c) n S Q) ∨
   ∃ (ι:Type) (ws bs:List Nat) (vs:List (Nat×VT)) (V:ι->List AV) (BR VR:ι->List Row) (μ:ι->Nat) (I:ι->Prop),El (P2 c) fun ds=>cb (canonV vs S) fun S0 =>
    (∃ i,bu ds S0 ws bs vs S fun I6 B0 C5=>I i/\I6=V i/\B0=BR i/\C5=VR i) /\
    ∀ i,I i->cb (E9 ds S0 ws bs vs (V i) (BR i) (VR i)) fun S1=>dZ P c S1 fun e S2=>match e with
     | .norm=>∃ i',bu ds S0 ws bs vs S2 fun I6 B0 C5=>(μ i' < μ i/\I i')/\I6=V i'/\B0=BR i'/\C5=VR i'
     | e=>Q e S2
 | .rangeFunc _ _ _ _,_,_=>False
 | .ret,S,Q=>Q .ret S
 | .exit id,S,Q=>Q (.exit id) S
 | _,_,_=>False
def nQ (P:Program) (fn:Func) (args:List AV) (ins:List Row) (res:AV) (l5:List Row):Prop :=
 match fn.body with
 | none=>False
 | some c=>(O6 ins.length args && ins.all (fun r=>A4 ins.length r && r.live) && Nat.ble args.length fn.ntmps)=true /\
  cb ⟨P8 (List.range' fn.ntmps ins.length) args++List.replicate (fn.ntmps - args.length) .any,List.replicate fn.ntmps .none++ins.map (x6 (List.range' fn.ntmps ins.length)),.plain⟩ fun S=>dZ P c S fun e S=>match e with
  | .exit _=>False
  | _=>match T1 P S fn.results.toList with
   | some l=>∃ news:List Nat,(aq (List.range' fn.ntmps ins.length++news) && Nat.beq l5.length (List.range' fn.ntmps ins.length++news).length && res.under l5.length && l5.all (A4 l5.length))=true /\
     sX (cn l).fin fun v=>v=res.ren (List.range' fn.ntmps ins.length++news)/\(List.range' fn.ntmps ins.length++news).map S.row=l5.map (x6 (List.range' fn.ntmps ins.length++news))
   | none=>False
/- The executor where function values hold on to what is not frozen: it is sound. A helper text: it speaks of no program. -/
section
variable {P:Program} {B:Nat->Prop} {w0:World} {F0:Env P} {S:St} {β:Nat->Option Hd} {F:Nat->Prop} {a:Act} {w:World} {ops:Array Oper}
theorem lu {o:Oper} {K:St->Out->Prop} (h:aQ P o S K):∀ c,o.op ≠ .defer c:=by
 intro c e
 unfold aQ at h
 rw [e] at h
 exact h
theorem sk (hR:Rel B w0 F0 S β F a w) {o:Oper} {x:Operand} (ho:o.op = .assign x) (hx:S.get x = .nils) {d:Nat} (hd:o.dst=some d) (hk:u3 S d=true) {r:Row} (hr:xI r) {K:St->Out->Prop} (hK:K (S.kill d) ⟨.own d,[(d,r)]⟩) {Q:Exit->Act->World->Prop} :
  o.wp P a w (K1 B w0 F0 o.dst K) Q:=by
 have hv:=hR.get x
 rw [hx] at hv
 have wD:=hR.topn d hk
 obtain ⟨β1,k1,k2,bn⟩:=hR.kill d wD
 let β':Nat->Option Hd:=fun j=>if j=d then some ⟨none,0,0,bd⟩ else β1 j
 have b1:β' d=some ⟨none,0,0,bd⟩:=by simp [β']
 have b2:∀ j,j≠d->β' j=β1 j:=fun j hj=>by simp [β',hj]
 have b3:∀ j,β1 j≠none->β' j=β1 j:=fun j hj=>b2 j fun e=>hj (e ▸ k1)
 have b4:∀ j b,o7 β' j b->j≠d/\o7 β1 j b:=fun j b h=>by
  by_cases e:j=d
  ·subst e;rw [o7,b1] at h;simp at h
  ·exact ⟨e,by rw [o7,b2 j e] at h;exact h⟩
 refine V3 (v:=a.eval x) (w':=w) (by simp [execOp,ho]) ⟨S.kill d,_,hK,β',F,?_⟩
 rw [hv.nils_inv]
 have eJ:=bn.still (dst:=o.dst) (x := .nils) (v := .slice none 0 0) (.imm .nils)
 have hlen:((S.kill d).put o.dst ⟨.own d,[(d,r)]⟩).t.length=((S.kill d).put o.dst ⟨.nils,[]⟩).t.length:=by simp [St.put,V0,hd]
 have o9:∀ j,((S.kill d).put o.dst ⟨.own d,[(d,r)]⟩).row j=if d=j/\d < (S.kill d).h.length then r else (S.kill d).row j:=fun j=>by
  show (m0 (S.kill d).h [(d,r)]).getD j .none=_
  simp only [m0,l9]
  rfl
 have live:∀ j,((S.kill d).put o.dst ⟨.own d,[(d,r)]⟩).row j ≠ .none->j≠d->(S.kill d).row j ≠ .none:=fun j h hj=>by
  rw [o9,if_neg (fun e=>hj e.1.symm)] at h
  exact h
 refine eJ.trade hlen rfl (fun i hi=>?_) (fun j=>?_) (fun i j b hi hj u9 J5=>?_) (fun i b hi u9=>?_) (fun i b u9=>⟨i,(b4 i b u9).2⟩) (fun j hd' hj=>?_) (fun id l xs k e h=>?_)
 ·have hs:=eJ.slots i hi
  show v7 β' F w ((V0 (S.kill d).t o.dst (.own d)).getD i .any) _
  have zO:v7 β1 F w ((V0 (S.kill d).t o.dst .nils).getD i .any) ((a.put o.dst (.slice none 0 0)).tmps.getD i undef):=hs
  rw [P0] at zO ⊢
  by_cases e:o.dst=some i/\i < (S.kill d).t.length
  ·rw [if_pos e] at zO ⊢
   rw [zO.nils_inv]
   exact .own b1
  ·rw [if_neg e] at zO ⊢
   exact zO.grow b3 (fun _ h=>h) (y0.refl _ _)
 ·rw [o9]
  split
  ·rename_i e
   rw [<- e.1]
   cases r with
   | vec ty sz d0 enc l =>
    have:l=[]:=List.eq_nil_of_length_eq_zero hr
    subst this
    exact ⟨_,b1,rfl,rfl,.inl ⟨rfl,rfl,rfl⟩⟩
   | nest ty sz j0 F5 d0 enc ys ho l =>
    have:l=[]:=List.eq_nil_of_length_eq_zero hr
    subst this
    exact ⟨_,b1,rfl,.inl ⟨rfl,rfl,rfl,rfl⟩⟩
   | _=>exact hr.elim
  ·exact (bn.rows j).grow b3 (fun _ h=>h) (y0.refl _ _) (fun _ _=>rfl)
 ·obtain ⟨e1,h1⟩:=b4 i b u9
  obtain ⟨e2,h2⟩:=b4 j b J5
  exact bn.inj i j b (live i hi e1) (live j hj e2) h1 h2
 ·obtain ⟨e1,h1⟩:=b4 i b u9
  exact ⟨i,live i hi e1,h1⟩
 ·have e:j≠d:=fun e=>by subst e;rw [wD] at hj;cases hj
  rw [b2 j e]
  exact bn.top j hd' hj
 ·rw [o9] at h
  split at h
  ·subst h;exact hr.elim
  ·exact h
theorem fZ (hR:Rel B w0 F0 S β F a w) {o:Oper} (u5:N2 o.op=true->∀ d,o.dst=some d->β d=none) {K:St->Out->Prop} (h:aQ P o S K) {Q:Exit->Act->World->Prop} :
  o.wpIn (FW F0.r) 0 P a w (K1 B w0 F0 o.dst K) Q:=by
 have Y6:=lu h
 unfold aQ at h
 split at h
 ·rename_i f xs ys ho
  refine D7 Y6 ?_
  have C9:execOp a.eval o=(do pure (.value (<- Instr.makeFunc f (xs.map a.eval) (ys.map a.eval)))):=by simp [execOp,ho]
  obtain ⟨h1,h2⟩:=E0 hR xs
  obtain ⟨h3,h4⟩:=E0 hR ys
  exact C4 C9 (v := .func f (xs.map a.eval) (ys.map a.eval)) (w':=w) (by simp [Instr.makeFunc]) ⟨S,_,h,β,F,hR.still (.fn h1 h2 h3 h4)⟩
 ·rename_i op t x y yt ho
  refine D7 Y6 ?_
  split at h
  ·rename_i hy
   split at h
   ·rename_i α sz d enc l hx
    split at h
    ·rename_i e hu
     refine bw hR ho hu hy ?_ h
     have:=hR.get x
     rw [hx] at this
     rcases this.sl_inv with ⟨h1,x0,c0,h2⟩|⟨b,ob,cap,g,h1,_⟩
     ·exact ⟨_,_,_,h2,fun _=>h1⟩
     ·exact ⟨_,_,_,h1,fun e=>by cases e⟩
    ·exact h.elim
   ·rename_i id hx
    split at h
    ·rename_i α ty sz d enc l hr
     split at h
     ·rename_i e hu
      refine bw hR ho hu hy ?_ h
      have:=hR.get x
      rw [hx] at this
      obtain ⟨hd,hβ,hv⟩:=this.own_inv
      obtain ⟨_,q⟩:=Q5 hR hr hβ
      refine ⟨_,_,_,hv,fun e=>?_⟩
      rcases q with ⟨q,_⟩|⟨b,vs,q,_⟩
      ·exact q
      ·rw [q] at e;cases e
     ·exact h.elim
    ·exact h.elim
   ·rw [<- ho] at h
    exact B1 hR u5 h
  ·rw [<- ho] at h
   exact B1 hR u5 h
 ·rename_i c ho
  split at h
  ·rename_i f hc
   split at h
   ·rename_i bk first u4 hg
    refine D7 Y6 ?_
    rcases h with h|h
    ·split at h
     ·rw [<- ho] at h
      exact B1 hR u5 h
     ·obtain ⟨frz,h⟩:=h
      split at h
      ·rw [<- ho] at h
       exact B1 hR u5 h
      ·rw [w9,<- ho] at h
       obtain ⟨F',F7⟩:=hR.freeze (bN (_:List Nat))
       exact B1 F7 u5 h
    ·exact nt hR ho hc h
   ·rename_i l hg
    split at h
    ·rename_i l' xs k o9
     obtain ⟨⟨rfl,hx,wJ⟩,h1,h2⟩:=h
     exact lZ hR ho hc hg o9 hx wJ h1 h2
    ·exact h.elim
   ·exact h.elim
  ·rw [<- ho] at h
   exact D7 Y6 (B1 hR u5 h)
 ·rename_i x ho
  refine D7 Y6 ?_
  split at h
  ·rename_i d hx hd
   rcases h with h|⟨hk,r,hr,h⟩
   ·exact B1 hR u5 h
   ·rw [w9] at h
    exact sk hR ho hx hd hk hr h
  ·exact B1 hR u5 h
 ·exact D7 Y6 (B1 hR u5 h)
theorem xK (hR:Rel B w0 F0 S β F a w) {o:Oper} {K:St->Out->Prop} (h:xJ P o S K) {Q:Exit->Act->World->Prop}:o.wpIn (FW F0.r) 0 P a w (K1 B w0 F0 o.dst K) Q:=by
 unfold xJ at h
 split at h
 ·rename_i ha
  split at h
  ·rename_i d hd
   split at h
   ·rename_i u2
    rw [w9] at h
    obtain ⟨β',h1,h2,F7⟩:=hR.kill d (hR.topn d u2)
    exact fZ F7 (fun _ d' hd'=>by rw [hd] at hd'; cases hd'; exact h1) h
   ·exact h.elim
  ·rename_i hd
   exact fZ hR (fun _ d' hd'=>by rw [hd] at hd'; cases hd') h
 ·rename_i ha
  exact fZ hR (fun Fu=>by rw [ha] at Fu; cases Fu) h
theorem gd {K:St->Prop} {Q:Exit->Act->World->Prop} (hQ:∀ S β F a w,Rel B w0 F0 S β F a w->K S->Q .normal a w):∀ (l:List Oper) (k:Nat) {S:St} {β:Nat->Option Hd} {F:Nat->Prop} {a:Act} {w:World},(∀ j,l[j]? = ops[k + j]?) ->
  Rel B w0 F0 S β F a w->jK P ops.toList l k S K->wpOpsIn (FW F0.r) 0 P ops Q (List.range' k l.length) a w
 | [],k,S,β,F,a,w,_,hR,h=>hQ _ _ _ _ _ hR h
 | o :: l,k,S,β,F,a,w,hl,hR,h=>by
  have h0:ops[k]? = some o:=by simpa using (hl 0).symm
  have kP:∀ j,l[j]? = ops[k + 1 + j]? := fun j=>by have:=hl (j + 1);simpa [Nat.add_assoc,Nat.add_comm 1 j] using this
  simp only [List.length_cons,List.range'_succ]
  simp only [wpOpsIn,h0]
  simp only [jK,Array.toArray_toList] at h
  split at h
  ·rename_i hg
   rw [X2 hR hg]
   simp only [if_true]
   refine Oper.wpIn_mono ?_ (xK hR h)
   rintro a' w' ⟨S',out,hK,β',F',F7⟩
   obtain ⟨v,hf,hK⟩:=U0 hK
   rw [bt] at hK
   exact gd hQ l (k + 1) kP (Rel.fine (x:=out.v) (rows:=out.rows) F7 hf) hK
  ·rename_i hg
   rw [X2 hR hg]
   simp only [Bool.false_eq_true,if_false]
   rw [bt] at h
   exact ⟨fun _ _=>trivial,gd hQ l (k + 1) kP (hR.still (.imm p9.undef)) h⟩
  ·exact h.elim
end
section
variable {P:Program} {B:Nat->Prop} {w0:World} {F0:Env P} {S:St} {β:Nat->Option Hd} {F:Nat->Prop} {a:Act} {w:World}
theorem xL {c:Code} (ih:∀ {S:St} {β:Nat->Option Hd} {F:Nat->Prop} {a:Act} {w:World} {Q:Ex->St->Prop},dZ P c S Q->Rel B w0 F0 S β F a w->c.wpIn (FW F0.r) 0 P (uR B w0 F0 Q) a w) {Q:Ex->St->Prop} :
  ∀ (n:Nat) {S:St} {β:Nat->Option Hd} {F:Nat->Prop} {a:Act} {w:World},An (dZ P c) n S Q->Rel B w0 F0 S β F a w->(Code.loop c).wpIn (FW F0.r) 0 P (uR B w0 F0 Q) a w:=by
 intro n S β F a w h hR
 refine O2 (fun n a w=>∃ S,An (dZ P c) n S Q/\∃ β F,Rel B w0 F0 S β F a w) n ⟨S,h,β,F,hR⟩ ?_
 rintro n a w ⟨S,h,β,F,hR⟩
 cases n with
 | zero=>exact h.elim
 | succ n =>
  refine wpIn_mono (ih h hR) ?_
  rintro e a' w' hq
  cases e with
  | normal =>
   obtain ⟨S',h1,β',F',h2⟩:=hq
   exact ⟨n,Nat.lt_succ_self n,S',h1,β',F',h2⟩
  | ret=>exact hq
  | exit i=>exact hq
  | goto l=>exact hq
  | panic ch=>exact hq
  | outgrown=>exact hq
theorem AG (hm:P.follows .mixedOrders=true):∀ (c:Code) {B:Nat->Prop} {w0:World} {F0:Env P} {S:St} {β:Nat->Option Hd} {F:Nat->Prop} {a:Act} {w:World} {Q:Ex->St->Prop},dZ P c S Q->Rel B w0 F0 S β F a w->c.wpIn (FW F0.r) 0 P (uR B w0 F0 Q) a w:=by
 intro c
 induction c with
 | skip=>intro B w0 F0 S β F a w Q h hR;exact wpIn_skip (.norm hR h)
 | label l=>intro B w0 F0 S β F a w Q h hR;exact wpIn_label (.norm hR h)
 | ret=>intro B w0 F0 S β F a w Q h hR;exact wpIn_ret ⟨S,h,β,F,hR⟩
 | exit i=>intro B w0 F0 S β F a w Q h hR;exact wpIn_exit ⟨S,h,β,F,hR⟩
 | region id ops draw =>
  intro B w0 F0 S β F a w Q h hR
  cases draw with
  | false =>
   refine wpIn_region ?_
   rw [List.range_eq_range']
   have:=gd (P:=P) (ops:=ops) (K:=fun S=>cb S (Q .norm)) (Q:=uR B w0 F0 Q) (fun S β F a w hR h=>by rw [w9] at h;exact .norm hR h) ops.toList 0 (by simp) hR h
   simpa using this
  | true =>
   obtain ⟨h1,h2⟩:=h
   rw [w9] at h2
   exact ju (K:=fun S=>cb S (Q .norm)) hm (fun S β F a w hR h=>by rw [w9] at h;exact .norm hR h) hR h1 h2
 | seq x y At Au =>
  intro B w0 F0 S β F a w Q h hR
  refine wpIn_seq (wpIn_mono (At h hR) ?_)
  rintro e a' w' hq
  cases e with
  | normal=>obtain ⟨S',h1,β',F',h2⟩:=hq;exact Au h1 h2
  | ret=>exact hq
  | exit i=>exact hq
  | goto l=>exact hq
  | panic ch=>exact hq
  | outgrown=>exact hq
 | cond c x y At Au =>
  intro B w0 F0 S β F a w Q h hR
  simp only [dZ] at h
  have hc:=hR.get c
  split at h
  ·rename_i e;rw [e] at hc;exact wpIn_cond_true hc.tt_inv (At h hR)
  ·rename_i e;rw [e] at hc;exact wpIn_cond_false hc.ff_inv (Au h hR)
  ·rename_i b e
   rw [e] at hc
   exact wpIn_cond_split hc.bool_inv (fun hb=>At (h.1 hb) hR) fun hb=>Au (h.2 hb) hR
  ·exact h.elim
 | scope x ih =>
  intro B w0 F0 S β F a w Q h hR
  exact jw (ih h hR) (fun _ _ _ q=>q)
 | block id x ih =>
  intro B w0 F0 S β F a w Q h hR
  refine wpIn_block (wpIn_mono (ih h hR) ?_)
  rintro e a' w' hq
  cases e with
  | normal=>exact hq
  | ret=>exact hq
  | exit i =>
   obtain ⟨S',h1,β',F',h2⟩:=hq
   simp only [] at h1
   cases hb:Nat.beq i id with
   | true =>
    rw [hb] at h1
    have:=Nat.eq_of_beq_eq_true hb
    simp only [Exit.inBlock,this,if_true]
    exact ⟨S',h1,β',F',h2⟩
   | false =>
    rw [hb] at h1
    have:=Nat.ne_of_beq_eq_false hb
    simp only [Exit.inBlock,this,if_false]
    exact ⟨S',h1,β',F',h2⟩
  | goto l=>exact hq
  | panic ch=>exact hq
  | outgrown=>exact hq
 | loop x ih =>
  intro B w0 F0 S β F a w Q h hR
  rcases h with ⟨n,h⟩|⟨ι,ws,bs,vs,V,BR,VR,μ,I,h⟩
  ·exact xL ih n h hR
  ·rw [dK,w9] at h
   obtain ⟨⟨i,h0⟩,xj⟩:=h
   have vY:(Ev.canonV vs S).n=F0.n:=(jx vs S).trans hR.nn
   obtain ⟨I6,B0,C5,⟨hI,rfl,rfl,rfl⟩,β',F7⟩:=X9 vY hR h0
   refine O2 (fun n a w=>∃ i,μ i=n/\I i/\∃ β F,Rel B w0 F0 (E9 (P2 x) (Ev.canonV vs S) ws bs vs (V i) (BR i) (VR i)) β F a w) (μ i) ⟨i,rfl,hI,β',F,F7⟩ ?_
   rintro n a w ⟨i,rfl,hI,β',F,F7⟩
   have h1:=xj i hI
   rw [w9] at h1
   refine wpIn_mono (ih h1 F7) ?_
   rintro e a' w' hq
   cases e with
   | normal =>
    obtain ⟨S',⟨i',h1⟩,β',F',h2⟩:=hq
    obtain ⟨I6,B0,C5,⟨⟨u2,CW⟩,rfl,rfl,rfl⟩,β',F7⟩:=X9 vY h2 h1
    exact ⟨_,u2,i',rfl,CW,β',F',F7⟩
   | ret=>exact hq
   | exit i=>exact hq
   | goto l=>exact hq
   | panic ch=>exact hq
   | outgrown=>exact hq
 | rangeFunc g ps assign eR Gz GA =>
  intro B w0 F0 S β F a w Q h hR
  exact h.elim
 | _=>intro B w0 F0 S β F a w Q h;exact h.elim
end
section
variable {P:Program} {B:Nat->Prop} {w0:World} {F0:Env P} {S:St} {β:Nat->Option Hd} {F:Nat->Prop} {a:Act} {w:World}
theorem pY (hm:P.follows .mixedOrders=true) {f:FuncId} {fn:Func} {args:List AV} {ins l5:List Row} {res:AV} (hf:P.funcs[f]? = some fn) (I8:(fn.name == "runtime.NumGoroutine")=false) (h:nQ P fn args ins res l5):PW P f args ins res l5:=by
 intro F w vs β hF C1 N1 K8
 unfold nQ at h
 split at h
 ·exact h.elim
 rename_i c hb
 obtain ⟨xk,h⟩:=h
 simp only [Bool.and_eq_true] at xk
 obtain ⟨⟨c1,c2⟩,c3⟩:=xk
 have c3:=Nat.le_of_ble_eq_true c3
 refine ⟨Go.MuLone.run_callFunc_enter hf I8 hb vs w,callsIn_wide.1 (callsIn_of_wp_marks (n:=0) hf hb trivial ?_)⟩
 rw [w9] at h
 obtain ⟨sh,Av⟩:∃ sh,List.range' fn.ntmps ins.length=sh:=⟨_,rfl⟩
 rw [Av] at h
 have shl:sh.length=ins.length:=by rw [<- Av];simp
 have Aw:∀ k,k < ins.length->sh.getD k 0=fn.ntmps + k:=fun k hk=>by rw [<- Av];exact hH _ _ _ hk
 have db:∀ k,k < ins.length->A4 ins.length (ins.getD k .none)=true/\ins.getD k .none ≠ .none:=fun k hk=>by
  have pH:ins.getD k .none ∈ ins:=by simp [List.getD,hk]
  have:=List.all_eq_true.1 c2 _ pH
  simp only [Bool.and_eq_true] at this
  exact ⟨this.1,fun e=>by rw [e] at this;simp [Row.live] at this⟩
 let β0:Nat->Option Hd:=fun j=>if fn.ntmps<=j then β (j - fn.ntmps) else none
 have b0:∀ k,β0 (fn.ntmps + k)=β k:=fun k=>by simp [β0]
 have Ir:∀ j,j < fn.ntmps->β0 j=none:=fun j hj=>by simp [β0,Nat.not_le.2 hj]
 have xl:∀ i b,o7 β0 i b->fn.ntmps<=i/\o7 β (i - fn.ntmps) b:=fun i b hb=>by
  by_cases hle:fn.ntmps<=i
  ·exact ⟨hle,by simpa [o7,β0,hle] using hb⟩
  ·simp [o7,β0,hle] at hb
 have o9:∀ (t:List AV) id,(St.row ⟨t,List.replicate fn.ntmps .none++ins.map (x6 sh),.plain⟩ id)=if fn.ntmps<=id then x6 sh (ins.getD (id - fn.ntmps) .none) else .none:=fun t id=>by
  simp only [St.row,List.getD]
  by_cases hle:fn.ntmps<=id
  ·rw [List.getElem?_append_right (by simpa using hle)]
   simp only [List.length_replicate,List.getElem?_map,hle,if_true]
   cases ins[id - fn.ntmps]? <;> simp [x6]
  ·rw [List.getElem?_append_left (by simpa using hle)]
   simp [hle,List.getElem?_replicate,Nat.lt_of_not_le hle]
 have hR:Rel (fun b=>w.heap.size<=b∨cZ β b) w (Env.plain P F β0 none .plain (fun _=>rfl)) ⟨P8 sh args++List.replicate (fn.ntmps - args.length) .any,List.replicate fn.ntmps .none++ins.map (x6 sh),.plain⟩ β0 F { tmps:=vs++Array.replicate (fn.ntmps - vs.size) undef,defers:=[] } w:={
  len:=by simp [C1,n8]
  slots:=fun i hi=>by
   by_cases u2:i < args.length
   ·have:=N1 i u2
    have e1:(P8 sh args++List.replicate (fn.ntmps - args.length) AV.any).getD i .any=(args.getD i .any).ren sh:=by
     rw [<- z6]
     simp [List.getD,List.getElem?_append,n8,u2]
    have e2:(vs++Array.replicate (fn.ntmps - vs.size) undef).getD i undef=vs.getD i undef:=by
     simp [Array.getD_eq_getD_getElem?,Array.getElem?_append,show i < vs.size by omega]
    rw [e1,e2]
    exact this.ren (n:=ins.length) (fun k hk hd h=>by rw [Aw k hk,b0];exact h) (A9 c1 i)
   ·have e1:(P8 sh args++List.replicate (fn.ntmps - args.length) AV.any).getD i .any = .any:=by
     simp only [List.getD,List.getElem?_append,n8,u2,if_false,List.getElem?_replicate]
     split<;>rfl
    rw [e1]
    exact .imm (.any _)
  marks:=⟨[],⟨rfl,fun _=>rfl⟩,.nil,by simp⟩
  rows:=fun id=>by
   rw [o9]
   split
   ·rename_i hle
    by_cases u2:id - fn.ntmps < ins.length
    ·have:=dH (ids:=sh) (n:=ins.length) (β':=β0) (fun k hk hd h=>by rw [Aw k hk,b0];exact h) u2 (K8.rows (id - fn.ntmps)) (db _ u2).1
     rw [Aw _ u2,show fn.ntmps + (id - fn.ntmps)=id by omega] at this
     exact this
    ·have:ins.getD (id - fn.ntmps) .none = .none:=by simp [List.getD,List.getElem?_eq_none (Nat.le_of_not_lt u2)]
     rw [this];trivial
   ·trivial
  inj:=fun i j b hi hj u9 J5=>by
   obtain ⟨h1,h2⟩:=xl i b u9
   obtain ⟨h3,h4⟩:=xl j b J5
   rw [o9,if_pos h1] at hi
   rw [o9,if_pos h3] at hj
   have:=K8.inj _ _ b (fun e=>hi (H0.2 e)) (fun e=>hj (H0.2 e)) h2 h4
   omega
  bF:=fun i b hi u9=>by
   obtain ⟨h1,h2⟩:=xl i b u9
   rw [o9,if_pos h1] at hi
   exact K8.bF _ b (fun e=>hi (H0.2 e)) h2
  bB:=fun i b h=>⟨.inr ⟨_,(xl i b h).2⟩,K8.bB _ b (xl i b h).2⟩
  FB:=fun b hb=>⟨hF b hb,.inl hb⟩
  below := .refl _ _
  BW:=fun _ h => .inl h
  top:=fun _ _ h=>h
  topn:=fun j hj=>by
   simp only [u3] at hj
   split at hj
   ·rename_i u2
    simp only [List.length_append,n8,List.length_replicate,Nat.blt_eq] at u2
    exact Ir j (by omega)
   ·cases hj
  nn:=rfl
  inc:=fun _ h=>h
  keep:=y0.refl _ _
  sol:=fun _ _ _ h _=>h
  yl:=fun id l xs k e h=>by
   rw [o9] at h
   split at h
   ·by_cases u2:id - fn.ntmps < ins.length
    ·have hu:=(db _ u2).1
     cases hr:ins.getD (id - fn.ntmps) .none<;>rw [hr] at h hu<;>simp [x6,A4] at h hu
    ·have:ins.getD (id - fn.ntmps) .none = .none:=by simp [List.getD,List.getElem?_eq_none (Nat.le_of_not_lt u2)]
     rw [this] at h;cases h
   ·cases h }
 refine wpIn_mono (AG hm c h hR) ?_
 have fin:∀ {S β1 F' a' w'} {l:List AV},Rel (fun b=>w.heap.size<=b∨cZ β b) w (Env.plain P F β0 none .plain (fun _=>rfl)) S β1 F' a' w'->T1 P S fn.results.toList=some l ->
   (∃ news:List Nat,(aq (sh++news) && Nat.beq l5.length (sh++news).length && res.under l5.length && l5.all (A4 l5.length))=true/\sX (cn l).fin fun v=>v=res.ren (sh++news)/\(sh++news).map S.row=l5.map (x6 (sh++news))) ->
   LeavesInM Fence.wide 0 P fn a'.tmps (fun e w'=>∃ v β' F',e = .returned v/\D6 (fun b=>w.heap.size<=b∨cZ β b) w w'/\(∀ k hd,β k=some hd->β' k=some hd)/\(∀ b,F b->F' b) /\
    (∀ b,F' b->b < w'.heap.size/\(F b∨w.heap.size<=b∨cZ β b))/\v7 β' F' w' res v/\(∀ k,s9 β' F' w' k (l5.getD k .none)) /\
    (∀ i j b,l5.getD i .none ≠ .none->l5.getD j .none ≠ .none->o7 β' i b->o7 β' j b->i=j)/\(∀ i b,l5.getD i .none ≠ .none->o7 β' i b->¬ F' b) /\
    (∀ i b,o7 β' i b->b < w'.heap.size/\(w.heap.size<=b∨cZ β b))) a'.defers .returning w':=by
  rintro S β1 F' a' w' l F7 hl ⟨news,FF,hv⟩
  rw [bg] at hv
  obtain ⟨hv,xm⟩:=hv
  simp only [Bool.and_eq_true] at FF
  obtain ⟨⟨⟨d1,d2⟩,d3⟩,d4⟩:=FF
  have d2:=Nat.eq_of_beq_eq_true d2
  have Y6:=bz d1
  obtain ⟨t,ds⟩:=a'
  refine aO ds F7 fun Iq O7 => ?_
  obtain ⟨v,h1,h2⟩:=eT O7 hl
  rw [hv] at h2
  obtain ⟨al,eC⟩:∃ al,sh++news=al:=⟨_,rfl⟩
  rw [eC] at Y6 d2 h2 xm
  have Is:∀ k,k < ins.length->al.getD k 0=fn.ntmps + k:=fun k hk=>by
   rw [<- Aw k hk,<- eC]
   simp [List.getD,List.getElem?_append,shl,hk]
  have It:ins.length<=al.length:=by rw [<- eC,List.length_append,shl];omega
  let β2:Nat->Option Hd:=fun k=>if k < al.length then β1 (al.getD k 0) else none
  have e2:∀ k,k < l5.length->β2 k=β1 (al.getD k 0):=fun k hk=>by simp [β2,<- d2,hk]
  have X0:∀ k b,o7 β2 k b->k < l5.length/\o7 β1 (al.getD k 0) b:=fun k b hb=>by
   by_cases u2:k < l5.length
   ·exact ⟨u2,by simpa [o7,e2 k u2] using hb⟩
   ·simp [o7,β2,<- d2,u2] at hb
  have pP:∀ k,k < l5.length->S.row (al.getD k 0)=x6 al (l5.getD k .none):=fun k hk=>by
   have:(al.map S.row).getD k .none=(l5.map (x6 al)).getD k .none:=by rw [xm]
   simpa [List.getD,List.getElem?_map,hk,d2 ▸ hk] using this
  have v5:∀ k,l5.getD k .none ≠ .none->k < l5.length/\S.row (al.getD k 0) ≠ .none:=fun k hk=>by
   by_cases u2:k < l5.length
   ·exact ⟨u2,by rw [pP k u2];exact fun e=>hk (H0.1 e)⟩
   ·exact absurd (by simp [List.getD,List.getElem?_eq_none (Nat.le_of_not_lt u2)]) hk
  refine ⟨v,h1,v,β2,F',rfl,O7.below,fun k hd hk=>?_,O7.inc,O7.FB,h2.unren e2 d3 rfl,fun k=>?_,fun i j b hi hj u9 J5=>?_,fun i b hi u9=>?_,fun i b u9=>?_⟩
  ·have u2:k < ins.length:=by
    rcases Nat.lt_or_ge k ins.length with h|h
    ·exact h
    ·have:=K8.dead k (by simp [List.getD,List.getElem?_eq_none h])
     rw [this] at hk;cases hk
   have:=O7.top (fn.ntmps + k) hd (by show β0 (fn.ntmps + k)=some hd;rw [b0];exact hk)
   rw [e2 k (by omega),Is k u2]
   exact this
  ·by_cases u2:k < l5.length
   ·have:=O7.rows (al.getD k 0)
    rw [pP k u2] at this
    exact bp e2 u2 (List.all_eq_true.1 d4 _ (by simp [List.getD,u2])) this
   ·have:l5.getD k .none = .none:=by simp [List.getD,List.getElem?_eq_none (Nat.le_of_not_lt u2)]
    rw [this];trivial
  ·obtain ⟨l1,r1⟩:=v5 i hi
   obtain ⟨l2,r2⟩:=v5 j hj
   have heq:=O7.inj _ _ b r1 r2 (X0 i b u9).2 (X0 j b J5).2
   have li:i < al.length:=by omega
   have lj:j < al.length:=by omega
   have e':al[i]=al[j]:=by simpa [List.getD,li,lj] using heq
   have hp:=List.pairwise_iff_getElem.1 Y6
   rcases Nat.lt_trichotomy i j with u2|rfl|kX
   ·exact absurd e' (hp i j li lj u2)
   ·rfl
   ·exact absurd e'.symm (hp j i lj li kX)
  ·exact O7.bF _ b (v5 i hi).2 (X0 i b u9).2
  ·have:=O7.bB _ b (X0 i b u9).2
   exact ⟨this.2,this.1⟩
 rintro e a' w' hq
 cases e with
 | normal =>
  obtain ⟨S',h1,β',F',F7⟩:=hq
  simp only [] at h1
  split at h1
  ·exact fin F7 ‹_› h1
  ·exact h1.elim
 | ret =>
  obtain ⟨S',h1,β',F',F7⟩:=hq
  simp only [] at h1
  split at h1
  ·exact fin F7 ‹_› h1
  ·exact h1.elim
 | exit i=>obtain ⟨S',h1,_⟩:=hq;exact h1.elim
 | goto l=>exact hq.elim
 | panic ch=>exact hq.elim
 | outgrown=>exact hq.elim
end

end Go.Ev
