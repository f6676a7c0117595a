/- A helper text: contracts of functions of the program, and plain lemmas. -/
import Derived.Test.YtdpnpdjnaimgaaaGreatEvFive
set_option linter.unusedVariables false
set_option linter.unusedSimpArgs false
/- The executor where function values hold on to what is not frozen. A helper text: it speaks of no program. -/
namespace Go.Ev
def b1I:Row->Prop
 | .vec _ _ _ _ l=>l.length=0
 | .nest _ _ _ _ _ _ _ _ l=>l.length=0
 | _=>False
def R6 (P:Program) (o:Oper) (S:St) (K:St->Out->Prop):Prop :=
 match o.op with
 | .makeFunc f xs ys=>K S ⟨.fn f (xs.toList.map S.get) (ys.toList.map S.get),[]⟩
 | .binOp op t x y yt=>match S.get y with
  | .nils=>match S.get x with
   | .sl _ _ _ l=>match P.underlying t with
    | some (.slice _)=>a2u op l fun v=>K S ⟨v,[]⟩
    | _=>False
   | .own id=>match S.row id with
    | .vec _ _ _ _ l=>match P.underlying t with
     | some (.slice _)=>a2u op l fun v=>K S ⟨v,[]⟩
     | _=>False
    | _=>False
   | _=>evN P o.dst (.binOp op t x y yt) S.get S.row fun out _=>K S out
  | _=>evN P o.dst (.binOp op t x y yt) S.get S.row fun out _=>K S out
 | .call c=>match c.callee with
  | .value f=>match S.get f with
   | .fn (.func _) first caps=>(match s9 (first++c.args.toList.map S.get++caps) with
    | true=>evN P o.dst (.call c) S.get S.row fun out _=>K S out
    | false=>∃ frz:Bool,match frz with
     | false=>evN P o.dst (.call c) S.get S.row fun out _=>K S out
     | true=>fSt (S.freeze (V3 ((first++c.args.toList.map S.get++caps).flatMap (idsN 4 S.row)))) fun S=>evN P o.dst (.call c) S.get S.row fun out _=>K S out)∨wOp P c f S K
   | .fn (.yield l) [] []=>match S.row S.t.length with
    | .ctr l' xs k false=>(l=l'/\xs[k]? = some (c.args.toList.map S.get)/\M4 (c.args.toList.map S.get)=true)/\K S ⟨.tt,[(S.t.length,.ctr l' xs (k + 1) false)]⟩/\K S ⟨.ff,[(S.t.length,.ctr l' xs (k + 1) true)]⟩
    | _=>False
   | _=>False
  | _=>evN P o.dst (.call c) S.get S.row fun out _=>K S out
 | .assign x=>match S.get x,o.dst with
  | .nils,some d=>evN P o.dst o.op S.get S.row (fun out _=>K S out)∨(k8 S d=true/\∃ r:Row,b1I r/\fSt (S.kill d) fun S'=>K S' ⟨.own d,[(d,r)]⟩)
  | _,_=>evN P o.dst o.op S.get S.row fun out _=>K S out
 | op=>evN P o.dst op S.get S.row fun out _=>K S out
def uOpN (P:Program) (o:Oper) (S:St) (K:St->Out->Prop):Prop :=
 match E0 o.op with
 | true=>match o.dst with
  | some d=>match k8 S d with
   | true=>fSt (S.kill d) fun S=>R6 P o S K
   | false=>False
  | none=>R6 P o S K
 | false=>R6 P o S K
def a2O (P:Program) (all:List Oper):List Oper->Nat->St->(St->Prop)->Prop
 | [],_,S,K=>K S
 | o :: l,k,S,K=>match gw all.toArray S o with
  | some true=>uOpN P o S fun S out=>J3 (a32 all k) out fun out=>fPut S o.dst out fun S=>a2O P all l (k + 1) S K
  | some false=>fPut S o.dst ⟨.tup [],[]⟩ fun S=>a2O P all l (k + 1) S K
  | none=>False
def exN (P:Program):Code->St->(Ex->St->Prop)->Prop
 | .skip,S,Q=>Q .norm S
 | .label _,S,Q=>Q .norm S
 | .region _ ops draw,S,Q=>match draw with
  | false=>a2O P ops.toList ops.toList 0 S fun S=>fSt S (Q .norm)
  | true=>(a33 P ops && (K3 P ops.toList).all (k8 S) && Z2 ops.toList)=true/\fSt (S.kills (K3 P ops.toList)) fun S=>T5 P ops.toList ops.toList 0 S [] fun S=>fSt S (Q .norm)
 | .seq a b,S,Q=>exN P a S fun e S=>match e with
  | .norm=>exN P b S Q
  | e=>Q e S
 | .cond c a b,S,Q=>match S.get c with
  | .tt=>exN P a S Q
  | .ff=>exN P b S Q
  | .bool x=>(x=true->exN P a S Q)/\(x=false->exN P b S Q)
  | _=>False
 | .scope c,S,Q=>exN P c S Q
 | .block id c,S,Q=>exN P c S fun e S=>match e with
  | .exit i=>match Nat.beq i id with
   | true=>Q .norm S
   | false=>Q (.exit i) S
  | e=>Q e S
 | .loop c,S,Q=>(∃ n,unr (exN P c) n S Q) ∨
   ∃ (ι:Type) (ws bs:List Nat) (vs:List (Nat×VT)) (V:ι->List AV) (BR VR:ι->List Row) (μ:ι->Nat) (I:ι->Prop),fNs (G2 c) fun ds=>fSt (canonV vs S) fun S0 =>
    (∃ i,T6 ds S0 ws bs vs S fun vals brows vrows=>I i/\vals=V i/\brows=BR i/\vrows=VR i) /\
    ∀ i,I i->fSt (y6 ds S0 ws bs vs (V i) (BR i) (VR i)) fun S1=>exN P c S1 fun e S2=>match e with
     | .norm=>∃ i',T6 ds S0 ws bs vs S2 fun vals brows vrows=>(μ i' < μ i/\I i')/\vals=V i'/\brows=BR i'/\vrows=VR i'
     | e=>Q e S2
 | .rangeFunc _ _ _ _,_,_=>False
 | .ret,S,Q=>Q .ret S
 | .exit id,S,Q=>Q (.exit id) S
 | _,_,_=>False
def a9t (P:Program) (fn:Func) (args:List AV) (res:AV):Prop :=
 match fn.body with
 | none=>False
 | some c=>fSt ⟨args++List.replicate (fn.ntmps - args.length) .any,List.replicate fn.ntmps .none,.plain⟩ fun S=>exN P c S fun e S=>match e with
  | .exit _=>False
  | _=>match K7 P S fn.results.toList with
   | some l=>fAV (O6 l).fin fun v=>v=res
   | none=>False
def a5t (P:Program) (fn:Func) (args:List AV) (ins:List Row) (res:AV) (outs:List Row):Prop :=
 match fn.body with
 | none=>False
 | some c=>(F7 ins.length args && ins.all (fun r=>r5 ins.length r && r.live) && Nat.ble args.length fn.ntmps)=true /\
  fSt ⟨renL (List.range' fn.ntmps ins.length) args++List.replicate (fn.ntmps - args.length) .any,List.replicate fn.ntmps .none++ins.map (l9 (List.range' fn.ntmps ins.length)),.plain⟩ fun S=>exN P c S fun e S=>match e with
  | .exit _=>False
  | _=>match I3 P S fn.results.toList with
   | some l=>∃ news:List Nat,(N1 (List.range' fn.ntmps ins.length++news) && Nat.beq outs.length (List.range' fn.ntmps ins.length++news).length && res.under outs.length && outs.all (r5 outs.length))=true /\
     fAV (O6 l).fin fun v=>v=res.ren (List.range' fn.ntmps ins.length++news)/\(List.range' fn.ntmps ins.length++news).map S.row=outs.map (l9 (List.range' fn.ntmps ins.length++news))
   | none=>False
/- The executor where function values hold on to what is not frozen: it is sound. A helper text: it speaks of no program. -/
section
variable {P:Program} {B:Nat->Prop} {w0:World} {F0:Env P} {S:St} {β:Nat->Option Hd} {F:Nat->Prop} {a:Act} {w:World} {ops:Array Oper}
theorem a3K {o:Oper} {K:St->Out->Prop} (h:R6 P o S K):∀ c,o.op ≠ .defer c:=by
 intro c e
 unfold R6 at h
 rw [e] at h
 exact h
theorem a8y (hR:Rel B w0 F0 S β F a w) {o:Oper} {x:Operand} (ho:o.op = .assign x) (hx:S.get x = .nils) {d:Nat} (hd:o.dst=some d) (hk:k8 S d=true) {r:Row} (hr:b1I r) {K:St->Out->Prop} (hK:K (S.kill d) ⟨.own d,[(d,r)]⟩) {Q:Exit->Act->World->Prop} :
  o.wp P a w (C4 B w0 F0 o.dst K) Q:=by
 have hv:=hR.get x
 rw [hx] at hv
 have h00:=hR.topn d hk
 obtain ⟨β1,k1,k2,hR1⟩:=hR.kill d h00
 let β':Nat->Option Hd:=fun j=>if j=d then some ⟨none,0,0,noM⟩ else β1 j
 have b1:β' d=some ⟨none,0,0,noM⟩:=by simp [β']
 have b2:∀ j,j≠d->β' j=β1 j:=fun j hj=>by simp [β',hj]
 have b3:∀ j,β1 j≠none->β' j=β1 j:=fun j hj=>b2 j fun e=>hj (e ▸ k1)
 have b4:∀ j b,occ β' j b->j≠d/\occ β1 j b:=fun j b h=>by
  by_cases e:j=d
  ·subst e; rw [occ,b1] at h; simp at h
  ·exact ⟨e,by rw [occ,b2 j e] at h; exact h⟩
 refine P9 (v:=a.eval x) (w':=w) (by simp [execOp,ho]) ⟨S.kill d,_,hK,β',F,?_⟩
 rw [hv.nils_inv]
 have hR2:=hR1.still (dst:=o.dst) (x := .nils) (v := .slice none 0 0) (.imm .nils)
 have hlen:((S.kill d).put o.dst ⟨.own d,[(d,r)]⟩).t.length=((S.kill d).put o.dst ⟨.nils,[]⟩).t.length:=by simp [St.put,P3,hd]
 have hrow:∀ j,((S.kill d).put o.dst ⟨.own d,[(d,r)]⟩).row j=if d=j/\d < (S.kill d).h.length then r else (S.kill d).row j:=fun j=>by
  show (d8 (S.kill d).h [(d,r)]).getD j .none=_
  simp only [d8,d6]
  rfl
 have live:∀ j,((S.kill d).put o.dst ⟨.own d,[(d,r)]⟩).row j ≠ .none->j≠d->(S.kill d).row j ≠ .none:=fun j h hj=>by
  rw [hrow,if_neg (fun e=>hj e.1.symm)] at h
  exact h
 refine hR2.trade hlen rfl (fun i hi => ?_) (fun j => ?_) (fun i j b hi hj hbi hbj => ?_) (fun i b hi hbi => ?_) (fun i b hbi=>⟨i,(b4 i b hbi).2⟩) (fun j hd' hj => ?_) (fun id l xs k e h => ?_)
 ·have hs:=hR2.slots i hi
  show Rep β' F w ((P3 (S.kill d).t o.dst (.own d)).getD i .any) _
  have hs':Rep β1 F w ((P3 (S.kill d).t o.dst .nils).getD i .any) ((a.put o.dst (.slice none 0 0)).tmps.getD i undef):=hs
  rw [G1] at hs' ⊢
  by_cases e:o.dst=some i/\i < (S.kill d).t.length
  ·rw [if_pos e] at hs' ⊢
   rw [hs'.nils_inv]
   exact .own b1
  ·rw [if_neg e] at hs' ⊢
   exact hs'.grow b3 (fun _ h=>h) (n4.refl _ _)
 ·rw [hrow]
  split
  ·rename_i e
   rw [<- e.1]
   cases r with
   | vec ty sz d0 enc l =>
    have:l=[]:=List.eq_nil_of_length_eq_zero hr
    subst this
    exact ⟨_,b1,rfl,rfl,.inl ⟨rfl,rfl,rfl⟩⟩
   | nest ty sz j0 ty' d0 enc ys ho l =>
    have:l=[]:=List.eq_nil_of_length_eq_zero hr
    subst this
    exact ⟨_,b1,rfl,.inl ⟨rfl,rfl,rfl,rfl⟩⟩
   | _=>exact hr.elim
  ·exact (hR1.rows j).grow b3 (fun _ h=>h) (n4.refl _ _) (fun _ _=>rfl)
 ·obtain ⟨e1,h1⟩:=b4 i b hbi
  obtain ⟨e2,h2⟩:=b4 j b hbj
  exact hR1.inj i j b (live i hi e1) (live j hj e2) h1 h2
 ·obtain ⟨e1,h1⟩:=b4 i b hbi
  exact ⟨i,live i hi e1,h1⟩
 ·have e:j≠d:=fun e=>by subst e; rw [h00] at hj; cases hj
  rw [b2 j e]
  exact hR1.top j hd' hj
 ·rw [hrow] at h
  split at h
  ·subst h; exact hr.elim
  ·exact h
theorem a1k (hR:Rel B w0 F0 S β F a w) {o:Oper} (hfree:E0 o.op=true->∀ d,o.dst=some d->β d=none) {K:St->Out->Prop} (h:R6 P o S K) {Q:Exit->Act->World->Prop} :
  o.wpIn (FW F0.r) 0 P a w (C4 B w0 F0 o.dst K) Q:=by
 have hnd:=a3K h
 unfold R6 at h
 split at h
 ·rename_i f xs ys ho
  refine D1 hnd ?_
  have ho':execOp a.eval o=(do pure (.value (<- Instr.makeFunc f (xs.map a.eval) (ys.map a.eval)))):=by simp [execOp,ho]
  obtain ⟨h1,h2⟩:=w7 hR xs
  obtain ⟨h3,h4⟩:=w7 hR ys
  exact v7 ho' (v := .func f (xs.map a.eval) (ys.map a.eval)) (w':=w) (by simp [Instr.makeFunc]) ⟨S,_,h,β,F,hR.still (.fn h1 h2 h3 h4)⟩
 ·rename_i op t x y yt ho
  refine D1 hnd ?_
  split at h
  ·rename_i hy
   split at h
   ·rename_i α sz d enc l hx
    split at h
    ·rename_i e hu
     refine T7 hR ho hu hy ?_ h
     have:=hR.get x
     rw [hx] at this
     rcases this.sl_inv with ⟨h1,x0,c0,h2⟩ | ⟨b,ob,cap,g,h1,_⟩
     ·exact ⟨_,_,_,h2,fun _=>h1⟩
     ·exact ⟨_,_,_,h1,fun e=>by cases e⟩
    ·exact h.elim
   ·rename_i id hx
    split at h
    ·rename_i α ty sz d enc l hr
     split at h
     ·rename_i e hu
      refine T7 hR ho hu hy ?_ h
      have:=hR.get x
      rw [hx] at this
      obtain ⟨hd,hβ,hv⟩:=this.own_inv
      obtain ⟨_,q⟩:=G9 hR hr hβ
      refine ⟨_,_,_,hv,fun e => ?_⟩
      rcases q with ⟨q,_⟩ | ⟨b,vs,q,_⟩
      ·exact q
      ·rw [q] at e; cases e
     ·exact h.elim
    ·exact h.elim
   ·rw [<- ho] at h
    exact r8 hR hfree h
  ·rw [<- ho] at h
   exact r8 hR hfree h
 ·rename_i c ho
  split at h
  ·rename_i f hc
   split at h
   ·rename_i fid first caps hg
    refine D1 hnd ?_
    rcases h with h | h
    ·split at h
     ·rw [<- ho] at h
      exact r8 hR hfree h
     ·obtain ⟨frz,h⟩:=h
      split at h
      ·rw [<- ho] at h
       exact r8 hR hfree h
      ·rw [l5,<- ho] at h
       obtain ⟨F',hR'⟩:=hR.freeze (V3 (_:List Nat))
       exact r8 hR' hfree h
    ·exact a5c hR ho hc h
   ·rename_i l hg
    split at h
    ·rename_i l' xs k hrow
     obtain ⟨⟨rfl,hx,hfl⟩,h1,h2⟩:=h
     exact a34 hR ho hc hg hrow hx hfl h1 h2
    ·exact h.elim
   ·exact h.elim
  ·rw [<- ho] at h
   exact D1 hnd (r8 hR hfree h)
 ·rename_i x ho
  refine D1 hnd ?_
  split at h
  ·rename_i d hx hd
   rcases h with h | ⟨hk,r,hr,h⟩
   ·exact r8 hR hfree h
   ·rw [l5] at h
    exact a8y hR ho hx hd hk hr h
  ·exact r8 hR hfree h
 ·exact D1 hnd (r8 hR hfree h)
theorem b1J (hR:Rel B w0 F0 S β F a w) {o:Oper} {K:St->Out->Prop} (h:uOpN P o S K) {Q:Exit->Act->World->Prop}:o.wpIn (FW F0.r) 0 P a w (C4 B w0 F0 o.dst K) Q:=by
 unfold uOpN at h
 split at h
 ·rename_i ha
  split at h
  ·rename_i d hd
   split at h
   ·rename_i hlt
    rw [l5] at h
    obtain ⟨β',h1,h2,hR'⟩:=hR.kill d (hR.topn d hlt)
    exact a1k hR' (fun _ d' hd'=>by rw [hd] at hd'; cases hd'; exact h1) h
   ·exact h.elim
  ·rename_i hd
   exact a1k hR (fun _ d' hd'=>by rw [hd] at hd'; cases hd') h
 ·rename_i ha
  exact a1k hR (fun ha'=>by rw [ha] at ha'; cases ha') h
theorem a1l {K:St->Prop} {Q:Exit->Act->World->Prop} (hQ:∀ S β F a w,Rel B w0 F0 S β F a w->K S->Q .normal a w):∀ (l:List Oper) (k:Nat) {S:St} {β:Nat->Option Hd} {F:Nat->Prop} {a:Act} {w:World},(∀ j,l[j]? = ops[k + j]?) ->
  Rel B w0 F0 S β F a w->a2O P ops.toList l k S K->wpOpsIn (FW F0.r) 0 P ops Q (List.range' k l.length) a w
 | [],k,S,β,F,a,w,_,hR,h=>hQ _ _ _ _ _ hR h
 | o :: l,k,S,β,F,a,w,hl,hR,h=>by
  have h0:ops[k]? = some o:=by simpa using (hl 0).symm
  have hl':∀ j,l[j]? = ops[k + 1 + j]? := fun j=>by have:=hl (j + 1); simpa [Nat.add_assoc,Nat.add_comm 1 j] using this
  simp only [List.length_cons,List.range'_succ]
  simp only [wpOpsIn,h0]
  simp only [a2O,Array.toArray_toList] at h
  split at h
  ·rename_i hg
   rw [L7 hR hg]
   simp only [if_true]
   refine Oper.wpIn_mono ?_ (b1J hR h)
   rintro a' w' ⟨S',out,hK,β',F',hR'⟩
   obtain ⟨v,hf,hK⟩:=Q3 hK
   rw [Z1] at hK
   exact a1l hQ l (k + 1) hl' (Rel.fine (x:=out.v) (rows:=out.rows) hR' hf) hK
  ·rename_i hg
   rw [L7 hR hg]
   simp only [Bool.false_eq_true,if_false]
   rw [Z1] at h
   exact ⟨fun _ _=>trivial,a1l hQ l (k + 1) hl' (hR.still (.imm RepI.undef)) h⟩
  ·exact h.elim
end
section
variable {P:Program} {B:Nat->Prop} {w0:World} {F0:Env P} {S:St} {β:Nat->Option Hd} {F:Nat->Prop} {a:Act} {w:World}
theorem b1K {c:Code} (ih:∀ {S:St} {β:Nat->Option Hd} {F:Nat->Prop} {a:Act} {w:World} {Q:Ex->St->Prop},exN P c S Q->Rel B w0 F0 S β F a w->c.wpIn (FW F0.r) 0 P (Aft B w0 F0 Q) a w) {Q:Ex->St->Prop} :
  ∀ (n:Nat) {S:St} {β:Nat->Option Hd} {F:Nat->Prop} {a:Act} {w:World},unr (exN P c) n S Q->Rel B w0 F0 S β F a w->(Code.loop c).wpIn (FW F0.r) 0 P (Aft B w0 F0 Q) a w:=by
 intro n S β F a w h hR
 refine E9 (fun n a w=>∃ S,unr (exN P c) n S Q/\∃ β F,Rel B w0 F0 S β F a w) n ⟨S,h,β,F,hR⟩ ?_
 rintro n a w ⟨S,h,β,F,hR⟩
 cases n with
 | zero=>exact h.elim
 | succ n =>
  refine wpIn_mono (ih h hR) ?_
  rintro e a' w' hq
  cases e with
  | normal =>
   obtain ⟨S',h1,β',F',h2⟩:=hq
   exact ⟨n,Nat.lt_succ_self n,S',h1,β',F',h2⟩
  | ret=>exact hq
  | exit i=>exact hq
  | goto l=>exact hq
  | panic ch=>exact hq
  | outgrown=>exact hq
theorem a9u (hm:P.follows .mixedOrders=true):∀ (c:Code) {B:Nat->Prop} {w0:World} {F0:Env P} {S:St} {β:Nat->Option Hd} {F:Nat->Prop} {a:Act} {w:World} {Q:Ex->St->Prop},exN P c S Q->Rel B w0 F0 S β F a w->c.wpIn (FW F0.r) 0 P (Aft B w0 F0 Q) a w:=by
 intro c
 induction c with
 | skip=>intro B w0 F0 S β F a w Q h hR; exact wpIn_skip (.norm hR h)
 | label l=>intro B w0 F0 S β F a w Q h hR; exact wpIn_label (.norm hR h)
 | ret=>intro B w0 F0 S β F a w Q h hR; exact wpIn_ret ⟨S,h,β,F,hR⟩
 | exit i=>intro B w0 F0 S β F a w Q h hR; exact wpIn_exit ⟨S,h,β,F,hR⟩
 | region id ops draw =>
  intro B w0 F0 S β F a w Q h hR
  cases draw with
  | false =>
   refine wpIn_region ?_
   rw [List.range_eq_range']
   have:=a1l (P:=P) (ops:=ops) (K:=fun S=>fSt S (Q .norm)) (Q:=Aft B w0 F0 Q) (fun S β F a w hR h=>by rw [l5] at h; exact .norm hR h) ops.toList 0 (by simp) hR h
   simpa using this
  | true =>
   obtain ⟨h1,h2⟩:=h
   rw [l5] at h2
   exact a2z (K:=fun S=>fSt S (Q .norm)) hm (fun S β F a w hR h=>by rw [l5] at h; exact .norm hR h) hR h1 h2
 | seq x y ihx ihy =>
  intro B w0 F0 S β F a w Q h hR
  refine wpIn_seq (wpIn_mono (ihx h hR) ?_)
  rintro e a' w' hq
  cases e with
  | normal=>obtain ⟨S',h1,β',F',h2⟩:=hq; exact ihy h1 h2
  | ret=>exact hq
  | exit i=>exact hq
  | goto l=>exact hq
  | panic ch=>exact hq
  | outgrown=>exact hq
 | cond c x y ihx ihy =>
  intro B w0 F0 S β F a w Q h hR
  simp only [exN] at h
  have hc:=hR.get c
  split at h
  ·rename_i e; rw [e] at hc; exact wpIn_cond_true hc.tt_inv (ihx h hR)
  ·rename_i e; rw [e] at hc; exact wpIn_cond_false hc.ff_inv (ihy h hR)
  ·rename_i b e
   rw [e] at hc
   exact wpIn_cond_split hc.bool_inv (fun hb=>ihx (h.1 hb) hR) fun hb=>ihy (h.2 hb) hR
  ·exact h.elim
 | scope x ih =>
  intro B w0 F0 S β F a w Q h hR
  exact a2B (ih h hR) (fun _ _ _ q=>q)
 | block id x ih =>
  intro B w0 F0 S β F a w Q h hR
  refine wpIn_block (wpIn_mono (ih h hR) ?_)
  rintro e a' w' hq
  cases e with
  | normal=>exact hq
  | ret=>exact hq
  | exit i =>
   obtain ⟨S',h1,β',F',h2⟩:=hq
   simp only [] at h1
   cases hb:Nat.beq i id with
   | true =>
    rw [hb] at h1
    have:=Nat.eq_of_beq_eq_true hb
    simp only [Exit.inBlock,this,if_true]
    exact ⟨S',h1,β',F',h2⟩
   | false =>
    rw [hb] at h1
    have:=Nat.ne_of_beq_eq_false hb
    simp only [Exit.inBlock,this,if_false]
    exact ⟨S',h1,β',F',h2⟩
  | goto l=>exact hq
  | panic ch=>exact hq
  | outgrown=>exact hq
 | loop x ih =>
  intro B w0 F0 S β F a w Q h hR
  rcases h with ⟨n,h⟩ | ⟨ι,ws,bs,vs,V,BR,VR,μ,I,h⟩
  ·exact b1K ih n h hR
  ·rw [a0x,l5] at h
   obtain ⟨⟨i,h0⟩,hstep⟩:=h
   have hn0:(Ev.canonV vs S).n=F0.n:=(a2C vs S).trans hR.nn
   obtain ⟨vals,brows,vrows,⟨hI,rfl,rfl,rfl⟩,β',hR'⟩:=N2 hn0 hR h0
   refine E9 (fun n a w=>∃ i,μ i=n/\I i/\∃ β F,Rel B w0 F0 (y6 (G2 x) (Ev.canonV vs S) ws bs vs (V i) (BR i) (VR i)) β F a w) (μ i) ⟨i,rfl,hI,β',F,hR'⟩ ?_
   rintro n a w ⟨i,rfl,hI,β',F,hR'⟩
   have h1:=hstep i hI
   rw [l5] at h1
   refine wpIn_mono (ih h1 hR') ?_
   rintro e a' w' hq
   cases e with
   | normal =>
    obtain ⟨S',⟨i',h1⟩,β',F',h2⟩:=hq
    obtain ⟨vals,brows,vrows,⟨⟨hlt,hI'⟩,rfl,rfl,rfl⟩,β',hR'⟩:=N2 hn0 h2 h1
    exact ⟨_,hlt,i',rfl,hI',β',F',hR'⟩
   | ret=>exact hq
   | exit i=>exact hq
   | goto l=>exact hq
   | panic ch=>exact hq
   | outgrown=>exact hq
 | rangeFunc g ps assign bodyC ihA ihB =>
  intro B w0 F0 S β F a w Q h hR
  exact h.elim
 | _=>intro B w0 F0 S β F a w Q h; exact h.elim
end
section
variable {P:Program} {B:Nat->Prop} {w0:World} {F0:Env P} {S:St} {β:Nat->Option Hd} {F:Nat->Prop} {a:Act} {w:World}
theorem a6I (hm:P.follows .mixedOrders=true) {f:FuncId} {fn:Func} {args:List AV} {res:AV} (hf:P.funcs[f]? = some fn) (hname:(fn.name == "runtime.NumGoroutine")=false) (h:a9t P fn args res):PC P f args res:=by
 intro F w vs hF hsz hargs
 unfold a9t at h
 split at h
 ·exact h.elim
 ·rename_i c hb
  refine .inl ⟨Go.MuLone.run_callFunc_enter hf hname hb vs w,callsIn_wide.1 (callsIn_of_wp_marks (n:=0) hf hb trivial ?_)⟩
  rw [l5] at h
  have hR:Rel (fun b=>w.heap.size<=b) w (Env.plain P F (fun _=>none) none .plain (fun _=>rfl)) ⟨args++List.replicate (fn.ntmps - args.length) .any,List.replicate fn.ntmps .none,.plain⟩ (fun _=>none) F { tmps:=vs++Array.replicate (fn.ntmps - vs.size) undef,defers:=[] } w:={
   len:=by simp [hsz]
   slots:=fun i hi=>by
    by_cases hlt:i < args.length
    ·have:=hargs i hlt
     have e1:(args++List.replicate (fn.ntmps - args.length) AV.any).getD i .any=args.getD i .any:=by simp [List.getD,List.getElem?_append,hlt]
     have e2:(vs++Array.replicate (fn.ntmps - vs.size) undef).getD i undef=vs.getD i undef:=by
      simp [Array.getD_eq_getD_getElem?,Array.getElem?_append,show i < vs.size by omega]
     rw [e1,e2]
     exact .imm this
    ·have e1:(args++List.replicate (fn.ntmps - args.length) AV.any).getD i .any = .any:=by
      simp only [List.getD,List.getElem?_append,hlt,if_false,List.getElem?_replicate]
      split<;>rfl
     rw [e1]
     exact .imm (.any _)
   marks:=⟨[],⟨rfl,fun _=>rfl⟩,.nil,by simp⟩
   rows:=fun i=>by
    have:(St.row ⟨args++List.replicate (fn.ntmps - args.length) .any,List.replicate fn.ntmps .none,.plain⟩ i) = .none:=by
     simp only [St.row,List.getD,List.getElem?_replicate]
     split<;>rfl
    rw [this]; trivial
   inj:=fun i j b _ _ h=>by simp [occ] at h
   bF:=fun i b _ h=>by simp [occ] at h
   bB:=fun i b h=>by simp [occ] at h
   FB:=fun b hb=>⟨hF b hb,.inl hb⟩
   below := .refl _ _
   BW:=fun _ h=>h
   top:=fun _ _ h=>by cases h
   topn:=fun _ _=>rfl
   nn:=rfl
   inc:=fun _ h=>h
   keep:=n4.refl _ _
   sol:=fun _ _ _ h _=>h
   yl:=fun id l xs k e h=>by
    have:(St.row ⟨args++List.replicate (fn.ntmps - args.length) .any,List.replicate fn.ntmps .none,.plain⟩ id) = .none:=by
     simp only [St.row,List.getD,List.getElem?_replicate]
     split<;>rfl
    rw [this] at h; cases h }
  refine wpIn_mono (a9u hm c h hR) ?_
  have fin:∀ {S β F' a' w'} {r:List AV},Rel (fun b=>w.heap.size<=b) w (Env.plain P F (fun _=>none) none .plain (fun _=>rfl)) S β F' a' w'->K7 P S fn.results.toList=some r->fAV (O6 r).fin (fun v=>v=res) ->
    LeavesInM Fence.wide 0 P fn a'.tmps (fun e w'=>∃ v,e = .returned v/\RowKit.Below w.heap.size w w'/\RepI (fun b=>F b∨w.heap.size<=b) w' res v) a'.defers .returning w':=by
   intro S β F' a' w' r hR' hr hv
   rw [M5] at hv
   obtain ⟨t,ds⟩:=a'
   refine L8 ds hR' fun w'' hR'' => ?_
   obtain ⟨v,h1,h2⟩:=X1 hR'' hr
   rw [hv] at h2
   exact ⟨v,h1,v,rfl,hR''.below.below,h2.mono (fun b hb=>by
    rcases hb with hb | ⟨i,_,hb⟩
    ·exact (hR''.FB b hb).2
    ·exact .inr (hR''.bB i b hb).1) (fun _ _ _ _ h=>h)⟩
  rintro e a' w' hq
  cases e with
  | normal =>
   obtain ⟨S',h1,β',F',hR'⟩:=hq
   simp only [] at h1
   split at h1
   ·exact fin hR' ‹_› h1
   ·exact h1.elim
  | ret =>
   obtain ⟨S',h1,β',F',hR'⟩:=hq
   simp only [] at h1
   split at h1
   ·exact fin hR' ‹_› h1
   ·exact h1.elim
  | exit i=>obtain ⟨S',h1,_⟩:=hq; exact h1.elim
  | goto l=>exact hq.elim
  | panic ch=>exact hq.elim
  | outgrown=>exact hq.elim
theorem a6J (hm:P.follows .mixedOrders=true) {f:FuncId} {fn:Func} {args:List AV} {ins outs:List Row} {res:AV} (hf:P.funcs[f]? = some fn) (hname:(fn.name == "runtime.NumGoroutine")=false) (h:a5t P fn args ins res outs):PW P f args ins res outs:=by
 intro F w vs β hF hsz hargs hown
 unfold a5t at h
 split at h
 ·exact h.elim
 rename_i c hb
 obtain ⟨hchk,h⟩:=h
 simp only [Bool.and_eq_true] at hchk
 obtain ⟨⟨c1,c2⟩,c3⟩:=hchk
 have c3:=Nat.le_of_ble_eq_true c3
 refine ⟨Go.MuLone.run_callFunc_enter hf hname hb vs w,callsIn_wide.1 (callsIn_of_wp_marks (n:=0) hf hb trivial ?_)⟩
 rw [l5] at h
 obtain ⟨sh,hsh⟩:∃ sh,List.range' fn.ntmps ins.length=sh:=⟨_,rfl⟩
 rw [hsh] at h
 have shl:sh.length=ins.length:=by rw [<- hsh]; simp
 have shk:∀ k,k < ins.length->sh.getD k 0=fn.ntmps + k:=fun k hk=>by rw [<- hsh]; exact a1Q _ _ _ hk
 have hins:∀ k,k < ins.length->r5 ins.length (ins.getD k .none)=true/\ins.getD k .none ≠ .none:=fun k hk=>by
  have hmem:ins.getD k .none ∈ ins:=by simp [List.getD,hk]
  have:=List.all_eq_true.1 c2 _ hmem
  simp only [Bool.and_eq_true] at this
  exact ⟨this.1,fun e=>by rw [e] at this; simp [Row.live] at this⟩
 let β0:Nat->Option Hd:=fun j=>if fn.ntmps<=j then β (j - fn.ntmps) else none
 have b0:∀ k,β0 (fn.ntmps + k)=β k:=fun k=>by simp [β0]
 have b0':∀ j,j < fn.ntmps->β0 j=none:=fun j hj=>by simp [β0,Nat.not_le.2 hj]
 have b0s:∀ i b,occ β0 i b->fn.ntmps<=i/\occ β (i - fn.ntmps) b:=fun i b hb=>by
  by_cases hle:fn.ntmps<=i
  ·exact ⟨hle,by simpa [occ,β0,hle] using hb⟩
  ·simp [occ,β0,hle] at hb
 have hrow:∀ (t:List AV) id,(St.row ⟨t,List.replicate fn.ntmps .none++ins.map (l9 sh),.plain⟩ id)=if fn.ntmps<=id then l9 sh (ins.getD (id - fn.ntmps) .none) else .none:=fun t id=>by
  simp only [St.row,List.getD]
  by_cases hle:fn.ntmps<=id
  ·rw [List.getElem?_append_right (by simpa using hle)]
   simp only [List.length_replicate,List.getElem?_map,hle,if_true]
   cases ins[id - fn.ntmps]? <;> simp [l9]
  ·rw [List.getElem?_append_left (by simpa using hle)]
   simp [hle,List.getElem?_replicate,Nat.lt_of_not_le hle]
 have hR:Rel (fun b=>w.heap.size<=b∨inB β b) w (Env.plain P F β0 none .plain (fun _=>rfl)) ⟨renL sh args++List.replicate (fn.ntmps - args.length) .any,List.replicate fn.ntmps .none++ins.map (l9 sh),.plain⟩ β0 F { tmps:=vs++Array.replicate (fn.ntmps - vs.size) undef,defers:=[] } w:={
  len:=by simp [hsz,f9]
  slots:=fun i hi=>by
   by_cases hlt:i < args.length
   ·have:=hargs i hlt
    have e1:(renL sh args++List.replicate (fn.ntmps - args.length) AV.any).getD i .any=(args.getD i .any).ren sh:=by
     rw [<- o8]
     simp [List.getD,List.getElem?_append,f9,hlt]
    have e2:(vs++Array.replicate (fn.ntmps - vs.size) undef).getD i undef=vs.getD i undef:=by
     simp [Array.getD_eq_getD_getElem?,Array.getElem?_append,show i < vs.size by omega]
    rw [e1,e2]
    exact this.ren (n:=ins.length) (fun k hk hd h=>by rw [shk k hk,b0]; exact h) (r7 c1 i)
   ·have e1:(renL sh args++List.replicate (fn.ntmps - args.length) AV.any).getD i .any = .any:=by
     simp only [List.getD,List.getElem?_append,f9,hlt,if_false,List.getElem?_replicate]
     split<;>rfl
    rw [e1]
    exact .imm (.any _)
  marks:=⟨[],⟨rfl,fun _=>rfl⟩,.nil,by simp⟩
  rows:=fun id=>by
   rw [hrow]
   split
   ·rename_i hle
    by_cases hlt:id - fn.ntmps < ins.length
    ·have:=a0v (ids:=sh) (n:=ins.length) (β':=β0) (fun k hk hd h=>by rw [shk k hk,b0]; exact h) hlt (hown.rows (id - fn.ntmps)) (hins _ hlt).1
     rw [shk _ hlt,show fn.ntmps + (id - fn.ntmps)=id by omega] at this
     exact this
    ·have:ins.getD (id - fn.ntmps) .none = .none:=by simp [List.getD,List.getElem?_eq_none (Nat.le_of_not_lt hlt)]
     rw [this]; trivial
   ·trivial
  inj:=fun i j b hi hj hbi hbj=>by
   obtain ⟨h1,h2⟩:=b0s i b hbi
   obtain ⟨h3,h4⟩:=b0s j b hbj
   rw [hrow,if_pos h1] at hi
   rw [hrow,if_pos h3] at hj
   have:=hown.inj _ _ b (fun e=>hi (A4.2 e)) (fun e=>hj (A4.2 e)) h2 h4
   omega
  bF:=fun i b hi hbi=>by
   obtain ⟨h1,h2⟩:=b0s i b hbi
   rw [hrow,if_pos h1] at hi
   exact hown.bF _ b (fun e=>hi (A4.2 e)) h2
  bB:=fun i b h=>⟨.inr ⟨_,(b0s i b h).2⟩,hown.bB _ b (b0s i b h).2⟩
  FB:=fun b hb=>⟨hF b hb,.inl hb⟩
  below := .refl _ _
  BW:=fun _ h => .inl h
  top:=fun _ _ h=>h
  topn:=fun j hj=>by
   simp only [k8] at hj
   split at hj
   ·rename_i hlt
    simp only [List.length_append,f9,List.length_replicate,Nat.blt_eq] at hlt
    exact b0' j (by omega)
   ·cases hj
  nn:=rfl
  inc:=fun _ h=>h
  keep:=n4.refl _ _
  sol:=fun _ _ _ h _=>h
  yl:=fun id l xs k e h=>by
   rw [hrow] at h
   split at h
   ·by_cases hlt:id - fn.ntmps < ins.length
    ·have hu:=(hins _ hlt).1
     cases hr:ins.getD (id - fn.ntmps) .none<;>rw [hr] at h hu<;>simp [l9,r5] at h hu
    ·have:ins.getD (id - fn.ntmps) .none = .none:=by simp [List.getD,List.getElem?_eq_none (Nat.le_of_not_lt hlt)]
     rw [this] at h; cases h
   ·cases h }
 refine wpIn_mono (a9u hm c h hR) ?_
 have fin:∀ {S β1 F' a' w'} {l:List AV},Rel (fun b=>w.heap.size<=b∨inB β b) w (Env.plain P F β0 none .plain (fun _=>rfl)) S β1 F' a' w'->I3 P S fn.results.toList=some l ->
   (∃ news:List Nat,(N1 (sh++news) && Nat.beq outs.length (sh++news).length && res.under outs.length && outs.all (r5 outs.length))=true/\fAV (O6 l).fin fun v=>v=res.ren (sh++news)/\(sh++news).map S.row=outs.map (l9 (sh++news))) ->
   LeavesInM Fence.wide 0 P fn a'.tmps (fun e w'=>∃ v β' F',e = .returned v/\BelowO (fun b=>w.heap.size<=b∨inB β b) w w'/\(∀ k hd,β k=some hd->β' k=some hd)/\(∀ b,F b->F' b) /\
    (∀ b,F' b->b < w'.heap.size/\(F b∨w.heap.size<=b∨inB β b))/\Rep β' F' w' res v/\(∀ k,j8 β' F' w' k (outs.getD k .none)) /\
    (∀ i j b,outs.getD i .none ≠ .none->outs.getD j .none ≠ .none->occ β' i b->occ β' j b->i=j)/\(∀ i b,outs.getD i .none ≠ .none->occ β' i b->¬ F' b) /\
    (∀ i b,occ β' i b->b < w'.heap.size/\(w.heap.size<=b∨inB β b))) a'.defers .returning w':=by
  rintro S β1 F' a' w' l hR' hl ⟨news,hck,hv⟩
  rw [M5] at hv
  obtain ⟨hv,hmap⟩:=hv
  simp only [Bool.and_eq_true] at hck
  obtain ⟨⟨⟨d1,d2⟩,d3⟩,d4⟩:=hck
  have d2:=Nat.eq_of_beq_eq_true d2
  have hnd:=T8 d1
  obtain ⟨t,ds⟩:=a'
  refine L8 ds hR' fun w'' hR'' => ?_
  obtain ⟨v,h1,h2⟩:=a0T hR'' hl
  rw [hv] at h2
  obtain ⟨al,hal⟩:∃ al,sh++news=al:=⟨_,rfl⟩
  rw [hal] at hnd d2 h2 hmap
  have alk:∀ k,k < ins.length->al.getD k 0=fn.ntmps + k:=fun k hk=>by
   rw [<- shk k hk,<- hal]
   simp [List.getD,List.getElem?_append,shl,hk]
  have insl:ins.length<=al.length:=by rw [<- hal,List.length_append,shl]; omega
  let β2:Nat->Option Hd:=fun k=>if k < al.length then β1 (al.getD k 0) else none
  have e2:∀ k,k < outs.length->β2 k=β1 (al.getD k 0):=fun k hk=>by simp [β2,<- d2,hk]
  have hb2:∀ k b,occ β2 k b->k < outs.length/\occ β1 (al.getD k 0) b:=fun k b hb=>by
   by_cases hlt:k < outs.length
   ·exact ⟨hlt,by simpa [occ,e2 k hlt] using hb⟩
   ·simp [occ,β2,<- d2,hlt] at hb
  have hrowO:∀ k,k < outs.length->S.row (al.getD k 0)=l9 al (outs.getD k .none):=fun k hk=>by
   have:(al.map S.row).getD k .none=(outs.map (l9 al)).getD k .none:=by rw [hmap]
   simpa [List.getD,List.getElem?_map,hk,d2 ▸ hk] using this
  have hlive:∀ k,outs.getD k .none ≠ .none->k < outs.length/\S.row (al.getD k 0) ≠ .none:=fun k hk=>by
   by_cases hlt:k < outs.length
   ·exact ⟨hlt,by rw [hrowO k hlt]; exact fun e=>hk (A4.1 e)⟩
   ·exact absurd (by simp [List.getD,List.getElem?_eq_none (Nat.le_of_not_lt hlt)]) hk
  refine ⟨v,h1,v,β2,F',rfl,hR''.below,fun k hd hk => ?_,hR''.inc,hR''.FB,h2.unren e2 d3 rfl,fun k => ?_,fun i j b hi hj hbi hbj => ?_,fun i b hi hbi => ?_,fun i b hbi => ?_⟩
  ·have hlt:k < ins.length:=by
    rcases Nat.lt_or_ge k ins.length with h | h
    ·exact h
    ·have:=hown.dead k (by simp [List.getD,List.getElem?_eq_none h])
     rw [this] at hk; cases hk
   have:=hR''.top (fn.ntmps + k) hd (by show β0 (fn.ntmps + k)=some hd; rw [b0]; exact hk)
   rw [e2 k (by omega),alk k hlt]
   exact this
  ·by_cases hlt:k < outs.length
   ·have:=hR''.rows (al.getD k 0)
    rw [hrowO k hlt] at this
    exact T3 e2 hlt (List.all_eq_true.1 d4 _ (by simp [List.getD,hlt])) this
   ·have:outs.getD k .none = .none:=by simp [List.getD,List.getElem?_eq_none (Nat.le_of_not_lt hlt)]
    rw [this]; trivial
  ·obtain ⟨l1,r1⟩:=hlive i hi
   obtain ⟨l2,r2⟩:=hlive j hj
   have heq:=hR''.inj _ _ b r1 r2 (hb2 i b hbi).2 (hb2 j b hbj).2
   have li:i < al.length:=by omega
   have lj:j < al.length:=by omega
   have e':al[i]=al[j]:=by simpa [List.getD,li,lj] using heq
   have hp:=List.pairwise_iff_getElem.1 hnd
   rcases Nat.lt_trichotomy i j with hlt | rfl | hgt
   ·exact absurd e' (hp i j li lj hlt)
   ·rfl
   ·exact absurd e'.symm (hp j i lj li hgt)
  ·exact hR''.bF _ b (hlive i hi).2 (hb2 i b hbi).2
  ·have:=hR''.bB _ b (hb2 i b hbi).2
   exact ⟨this.2,this.1⟩
 rintro e a' w' hq
 cases e with
 | normal =>
  obtain ⟨S',h1,β',F',hR'⟩:=hq
  simp only [] at h1
  split at h1
  ·exact fin hR' ‹_› h1
  ·exact h1.elim
 | ret =>
  obtain ⟨S',h1,β',F',hR'⟩:=hq
  simp only [] at h1
  split at h1
  ·exact fin hR' ‹_› h1
  ·exact h1.elim
 | exit i=>obtain ⟨S',h1,_⟩:=hq; exact h1.elim
 | goto l=>exact hq.elim
 | panic ch=>exact hq.elim
 | outgrown=>exact hq.elim
end

end Go.Ev
