/- Helper lemmas. -/
import Derived.Test.YtdpnpdjnaimgaaaGreatEvFour
set_option linter.unusedVariables false
set_option linter.unusedSimpArgs false
/- Rows whose elements hold slices of their own: what is done with them. A helper text: it speaks of no program. -/
namespace Go.Ev
section
variable {P:Program}{B:Nat->Prop}{w0:World}{F0:Env P}{S:St}{β:Nat->Option Hd}{F:Nat->Prop}{a:Act}{w:World}
def R6(B:Nat->Prop)(w0:World)(F0:Env P)(dst:Option Nat)(K:St->Out->Prop)(a':Act)(w':World):Prop :=
 ∃ S out,K S out/\∃ β F,Rel B w0 F0 (S.put dst out) β F a' w'
theorem R6.still(hR:Rel B w0 F0 S β F a w){dst:Option Nat}{K:St->Out->Prop}{x:AV}{v:Value}(hv:B4 β F w x v)(hK:K S ⟨x,[]⟩):R6 B w0 F0 dst K (a.put dst v) w :=
 ⟨S,_,hK,β,F,hR.still hv⟩
theorem Rel.trade(hR:Rel B w0 F0 S β F a w){S':St}{β':Nat->Option Hd}(hl:S'.t.length=S.t.length)(hn:S'.n=S.n)
  (Qp:∀ i,i<S.t.length->B4 β' F w (S'.t.getD i .any) (a.tmps.getD i undef)) (iC:∀ j,A3 β' F w j (S'.row j))
  (pA:∀ i j b,S'.row i ≠ .none->S'.row j ≠ .none->y0 β' i b->y0 β' j b->i=j) (MV:∀ i b,S'.row i ≠ .none->y0 β' i b->∃ k,S.row k ≠ .none/\y0 β k b)
  (hB:∀ i b,y0 β' i b->∃ k,y0 β k b) (Wm:∀ j hd,F0.β j=some hd->β' j=some hd) (MC:∀ id l xs k e,S'.row id = .ctr l xs k e->S.row id = .ctr l xs k e):Rel B w0 F0 S' β' F a w where
 len:=by rw[hl];exact hR.len
 slots:=fun i hi=>Qp i (hl ▸ hi)
 marks:=hR.marks
 rows:=iC
 inj:=pA
 bF:=fun i b hi hb=>by obtain⟨k,h1,h2⟩:=MV i b hi hb;exact hR.bF k b h1 h2
 bB:=fun i b hb=>by obtain⟨k,h⟩:=hB i b hb;exact hR.bB k b h
 FB:=hR.FB
 below:=hR.below
 BW:=hR.BW
 top:=Wm
 topn:=fun j hj=>hR.topn j (by simpa[A8,hl,hn]using hj)
 nn:=hn.trans hR.nn
 inc:=hR.inc
 keep:=hR.keep
 sol:=hR.sol
 yl:=hR.ylOf (fun i=>i) MC (fun _ _ _ _ h=>h) MV (fun _ hb => .inl hb)
mutual
def AV.namesM(id:Nat):AV->Bool
 | .mem j _=>Nat.beq j id
 | .mptr j _ _=>Nat.beq j id
 | .agg l=>dM id l
 | .tup l=>dM id l
 | .fn _ a b=>dM id a || dM id b
 | _=>false
def dM(id:Nat):List AV->Bool
 | []=>false
 | a :: l=>a.namesM id || dM id l
end
theorem aD{id:Nat}:∀ {l:List AV},dM id l=false->∀ i,i<l.length->(l.getD i .any).namesM id=false
 | a :: l,h,0,_=>by simp[dM]at h;exact h.1
 | a :: l,h,i+1,hi=>by
  simp[dM]at h;have:=aD h.2 i (by simpa using hi);simpa using this
def N8(id:Nat)(x:AV):AV :=
 match x.namesM id with
 | true => .any
 | false=>x
theorem dO(id:Nat):N8 id .any = .any:=rfl
theorem a0p(id:Nat)(x:AV):N8 id (N8 id x)=N8 id x:=by
 unfold N8;cases h:x.namesM id with
 | true=>rfl
 | false=>simp[h]
def J0(id:Nat):Row->Row
 | .none => .none
 | .cells ty cs => .cells ty (cs.map (N8 id))
 | .lit ty sz D5 => .lit ty sz (D5.map fun cs=>cs.map (N8 id))
 | .vec ty sz e enc l => .vec ty sz e enc l
 | .ctr l xs k e => .ctr l xs k e
 | .nest ty sz j0 M8 e enc ys ho l => .nest ty sz j0 M8 e enc ys ho l
theorem iI(id:Nat)(r:Row):J0 id (J0 id r)=J0 id r:=by
 have h:N8 id ∘ N8 id=N8 id:=funext (a0p id);cases r<;>simp only[J0,List.map_map,h]
 congr 1
 refine List.map_congr_left fun x _=>?_
 simp only[Function.comp,List.map_map,h]
theorem ke{id:Nat}{r:Row}:J0 id r = .none↔r = .none:=by cases r<;>simp[J0]
def St.noMem(S:St)(id:Nat):St:=⟨S.t.map (N8 id),S.h.map (J0 id),S.n⟩
theorem jl(S:St)(id j:Nat):(S.noMem id).row j=J0 id (S.row j):=by
 simp only[St.noMem,St.row,List.getD,List.getElem?_map];cases S.h[j]? <;> rfl
theorem yX(S:St)(id:Nat):(S.noMem id).noMem id=S.noMem id:=by
 simp only[St.noMem,List.map_map]
 congr 1
 ·exact List.map_congr_left fun x _=>a0p id x
 ·exact List.map_congr_left fun x _=>iI id x
theorem B4.turnM{β β':Nat->Option Hd}{id:Nat}{hd hd':Hd}(h0:β id=some hd)(h1:β' id=some hd')(eb:hd'.b=hd.b)(el:hd'.len=hd.len)(ec:hd'.cap=hd.cap)(hβ:∀ j,j≠id->β j≠none->β' j=β j)
  {x:AV} {v:Value} (h:B4 β F w x v) (hx:x.namesM id=false):B4 β' F w x v:=by
 induction h with
 | imm h=>exact .imm h
 | @ptr oF sz i off b qD hb hh =>
  by_cases e:oF=id
  ·subst e;rw[h0]at hb;cases hb;exact .ptr h1 (eb.trans hh)
  ·exact .ptr ((hβ _ e (by rw[hb];simp)).trans hb) hh
 | @own oF qD hb =>
  by_cases e:oF=id
  ·subst e;rw[h0]at hb;cases hb
   have:=B4.own (F:=F) (w:=w) h1;rw[eb,el,ec]at this;exact this
  ·exact .own ((hβ _ e (by rw[hb];simp)).trans hb)
 | @mem oF i qD hb hi =>
  have e:oF≠id:=fun e=>by subst e;simp[AV.namesM]at hx
  exact .mem ((hβ _ e (by rw[hb];simp)).trans hb) hi
 | @mptr oF i k b qD hb hh hi hk =>
  have e:oF≠id:=fun e=>by subst e;simp[AV.namesM]at hx
  exact .mptr ((hβ _ e (by rw[hb];simp)).trans hb) hh hi hk
 | agg hl _ ih=>exact .agg hl fun i hi=>ih i hi (aD (by simpa[AV.namesM]using hx) i hi)
 | tup hl _ ih=>exact .tup hl fun i hi=>ih i hi (aD (by simpa[AV.namesM]using hx) i hi)
 | fn hl _ hm _ ih ik =>
  simp[AV.namesM]at hx;exact .fn hl (fun i hi=>ih i hi (aD hx.1 i hi)) hm (fun i hi=>ik i hi (aD hx.2 i hi))
theorem B4.noMem{β β':Nat->Option Hd}{id:Nat}{hd hd':Hd}(h0:β id=some hd)(h1:β' id=some hd')(eb:hd'.b=hd.b)(el:hd'.len=hd.len)(ec:hd'.cap=hd.cap)(hβ:∀ j,j≠id->β j≠none->β' j=β j)
  {x:AV} {v:Value} (h:B4 β F w x v):B4 β' F w (N8 id x) v:=by
 unfold N8;cases hx:x.namesM id with
 | true=>exact .imm (.any _)
 | false=>exact h.turnM h0 h1 eb el ec hβ hx
theorem lM{β β':Nat->Option Hd}{id:Nat}{hd hd':Hd}(h0:β id=some hd)(h1:β' id=some hd')(eb:hd'.b=hd.b)(el:hd'.len=hd.len)(ec:hd'.cap=hd.cap)(hβ:∀ j,j≠id->β j≠none->β' j=β j)
  {j:Nat} (hj:j≠id) {r:Row} (h:A3 β F w j r):A3 β' F w j (J0 id r):=by
 have tr:∀ {qD},β j=some qD->β' j=some qD:=fun e=>(hβ j hj (by rw[e];simp)).trans e
 cases r with
 | none=>trivial
 | ctr l xs k e=>obtain⟨hd,e1,e2⟩:=h;exact⟨hd,tr e1,e2⟩
 | cells ty cs =>
  obtain⟨hd,b,vs,e1,em,e2,e3,e4,e5⟩:=h;exact⟨hd,b,vs,tr e1,em,e2,e3,by simpa using e4,fun i hi=>by rw[s7 _ (dO id)];exact(e5 i (by simpa using hi)).noMem h0 h1 eb el ec hβ⟩
 | lit ty sz D5 =>
  obtain⟨hd,b,vs,e1,em,e2,e3,e4,e5,e6,e7,e8⟩:=h;have hg:∀ i,(D5.map fun cs=>cs.map (N8 id)).getD i []=(D5.getD i []).map (N8 id):=by
   intro i;simp only[List.getD,List.getElem?_map];cases D5[i]? <;> simp
  exact⟨hd,b,vs,tr e1,em,e2,e3,by simpa using e4,by simpa using e5,by simpa using e6,by simpa using e7,fun i k hi hk=>by
   rw[hg,s7 _ (dO id)];exact(e8 i k (by simpa using hi) hk).noMem h0 h1 eb el ec hβ⟩
 | vec ty sz e enc l=>obtain⟨hd,e1,e2⟩:=h;exact⟨hd,tr e1,e2⟩
 | nest ty sz j0 M8 e enc ys ho l=>obtain⟨hd,e1,e2⟩:=h;exact⟨hd,tr e1,e2⟩
theorem Rel.held(hR:Rel B w0 F0 S β F a w){id:Nat}{hd hd':Hd}(h0:β id=some hd)(IK:F0.β id=none)(C0:S.row id ≠ .none)(eb:hd'.b=hd.b)(el:hd'.len=hd.len)(ec:hd'.cap=hd.cap){cons:List Nat}(hc:id ∉ cons)
  {r:Row} (hr:∀ β',β' id=some hd'->(∀ j,j≠id->β' j=β j)->A3 β' F w id r) (yB:∀ l xs k e,r ≠ .ctr l xs k e) (Wn:∀ b,ck (some hd') b->y0 β id b∨∃ c ∈ cons,S.row c ≠ .none/\y0 β c b) :
  ∃ β',β' id=some hd'/\(∀ j,j≠id->β' j=β j)/\Rel B w0 F0 ⟨(S.noMem id).t,u6 (S.noMem id).h (cons.map (fun i=>(i,.none))++[(id,r)]),S.n⟩ β' F a w:=by
 let β':Nat->Option Hd:=fun j=>if j=id then some hd' else β j
 have h1:β' id=some hd':=by simp[β']
 have h2:∀ j,j≠id->β' j=β j:=fun j hj=>by simp[β',hj]
 have A2:=fV C0;have C2:∀ j,(u6 (S.noMem id).h (cons.map (fun i=>(i,.none))++[(id,r)])).getD j .none=if id=j then r else if j ∈ cons then .none else J0 id (S.row j):=fun j=>by
  rw[pk];simp only[u6,s9,aA,rm];have e:(S.noMem id).h.length=S.h.length:=by simp[St.noMem]
  have e2:(S.noMem id).h.getD j .none=J0 id (S.row j):=jl S id j;rw[e,e2];by_cases hj:id=j<;>simp[hj]
  subst hj;intro hh;omega
 have live:∀ j,j≠id->(u6 (S.noMem id).h (cons.map (fun i=>(i,.none))++[(id,r)])).getD j .none ≠ .none->j ∉ cons/\S.row j ≠ .none:=fun j hj hl=>by
  rw[C2,if_neg (fun h=>hj h.symm)]at hl;split at hl
  ·exact absurd rfl hl
  ·rename_i TJ;exact⟨TJ,fun e=>hl (ke.2 e)⟩
 have o1:∀ b,y0 β' id b->y0 β id b∨∃ c ∈ cons,S.row c ≠ .none/\y0 β c b:=fun b hb=>Wn b (by rw[y0,h1]at hb;exact hb)
 have o2:∀ j b,j≠id->(y0 β' j b↔y0 β j b):=fun j b hj=>by rw[y0,y0,h2 j hj]
 refine⟨β',h1,h2,hR.trade (by simp[St.noMem]) rfl (fun i hi=>?_) (fun j=>?_) (fun i j b hi hj B9 U4=>?_) (fun i b hi B9=>?_) (fun i b B9=>?_) (fun j qD hj=>?_) (fun j l xs k e h=>?_)⟩
 ·show B4 β' F w ((S.t.map (N8 id)).getD i .any) _
  rw[s7 _ (dO id)];exact(hR.slots i hi).noMem h0 h1 eb el ec fun j hj _=>h2 j hj
 ·show A3 β' F w j ((u6 (S.noMem id).h (cons.map (fun i=>(i,.none))++[(id,r)])).getD j .none)
  rw[C2];split
  ·rename_i e;subst e;exact hr β' h1 h2
  ·split
   ·trivial
   ·rename_i e _;exact lM h0 h1 eb el ec (fun j hj _=>h2 j hj) (Ne.symm e) (hR.rows j)
 ·by_cases e:i=id
  ·by_cases e':j=id
   ·exact e.trans e'.symm
   ·exfalso;subst e;obtain⟨Tw,Vc⟩:=live j e' hj;rw[o2 j b e']at U4;rcases o1 b B9 with h|⟨c,TJ,Y7,vV⟩
    ·exact e' (hR.inj j i b Vc C0 U4 h)
    ·exact Tw (hR.inj c j b Y7 Vc vV U4 ▸ TJ)
  ·obtain⟨Tx,Ty⟩:=live i e hi;rw[o2 i b e]at B9;by_cases e':j=id
   ·exfalso;subst e';rcases o1 b U4 with h|⟨c,TJ,Y7,vV⟩
    ·exact e (hR.inj i j b Ty C0 B9 h)
    ·exact Tx (hR.inj c i b Y7 Ty vV B9 ▸ TJ)
   ·rw[o2 j b e']at U4;exact hR.inj i j b Ty (live j e' hj).2 B9 U4
 ·by_cases e:i=id
  ·subst e;rcases o1 b B9 with h|⟨c,_,Y7,vV⟩
   ·exact⟨i,C0,h⟩
   ·exact⟨c,Y7,vV⟩
  ·rw[o2 i b e]at B9;exact⟨i,(live i e hi).2,B9⟩
 ·by_cases e:i=id
  ·subst e;rcases o1 b B9 with h|⟨c,_,_,vV⟩
   ·exact⟨i,h⟩
   ·exact⟨c,vV⟩
  ·rw[o2 i b e]at B9;exact⟨i,B9⟩
 ·have:j≠id:=fun e=>by subst e;rw[IK]at hj;cases hj
  exact(h2 j this).trans (hR.top j qD hj)
 ·replace h:(u6 (S.noMem id).h (cons.map (fun i=>(i,.none))++[(id,r)])).getD j .none = .ctr l xs k e:=h
  rw[C2]at h;split at h
  ·exact absurd h (yB l xs k e)
  ·split at h
   ·cases h
   ·cases hr:S.row j<;>rw[hr]at h<;>simp[J0]at h
    simp[h]
end
/- Rows whose elements hold slices of their own: the operations. A helper text: it speaks of no program. -/
def yY(e:TypeId)(sz:Nat):Row->Prop
 | .vec ty s _ _ l=>ty=e/\s=sz/\l.length=0
 | .nest ty s _ _ _ _ _ ho l=>ty=e/\s=sz/\ho=none/\l.length=0
 | _=>False
def TK(ho:Option Nat)(j:Nat):Prop :=
 match ho with
 | none=>True
 | some h=>h=j
def Jf:List AV->Bool
 | []=>false
 | a :: l=>match a with
  | .mem _ _=>true
  | _=>Jf l
def gi(t:List AV)(x:AV):List Nat->List AV
 | []=>t
 | s :: ss=>gi (t.set s x) x ss
def St.explode(S:St)(id e:Nat)(r1 r2:Row)(ss:List Nat):St:=⟨gi (S.noMem id).t (.own e) ss,((S.noMem id).h.set e r1).set id r2,S.n⟩
def Vg(ff:St->(St->Prop)->Prop)(P:Program)(o:Oper)(S:St)(K:St->Out->Prop)(W:St->Prop)(E:Prop):Prop :=
 match o.op with
 | .store t x y=>match S.get x with
  | .ptr id sz j off=>match S.row id with
   | .nest ty yq j0 M8 d enc ys ho l=>match P.info? t,(S.get y).cells? with
    | some i,some cs=>match Nat.beq cs.length i.size && (Nat.beq sz yq && (Nat.beq (enc (l.getD j d)).length sz && (Nat.ble (off+cs.length) sz && Nat.blt j0 sz)))with
     | true=>match Nat.beq off j0 with
      | true=>match cs,o.dst with
       | [.own e],none=>match A8 S id with
        | true=>∃ (zs:List Int) (y:_),(S.row e = .vec M8 1 0 aR zs/\ys y=zs/\(enc y).set j0 .any=(enc (l.getD j d)).set j0 .any/\j<l.length/\TK ho j) /\
          ff (S.noMem id) fun S'=>K S' ⟨.any,[(e,.none),(id,.nest ty sz j0 M8 d enc ys none (l.set j y))]⟩
        | false=>False
       | _,_=>False
      | false=>match (Nat.ble (off+cs.length) j0 || Nat.blt j0 off) && F9 cs with
       | true=>∃ y,(enc y=setCells (enc (l.getD j d)) off cs/\ys y=ys (l.getD j d)/\j<l.length)/\K S ⟨.any,[(id,.nest ty sz j0 M8 d enc ys ho (l.set j y))]⟩
       | false=>False
     | false=>False
    | _,_=>False
   | _=>E
  | .mptr id i k=>match S.row id with
   | .nest ty sz j0 M8 d enc ys none l=>match P.info? t,S.get y with
    | some inf,.int .i64 n=>match Nat.beq inf.size 1 with
     | true=>∃ y,(ys y=(ys (l.getD i d)).set k n/\(enc y).set j0 .any=(enc (l.getD i d)).set j0 .any)/\K S ⟨.any,[(id,.nest ty sz j0 M8 d enc ys none (l.set i y))]⟩
     | false=>False
    | _,_=>False
   | _=>E
  | _=>E
 | .makeSlice t (.const (.int k 0)) cap=>match cap with
  | .const _=>E
  | _=>match o.dst,P.underlying t,S.get cap with
   | some d,some (.slice e),.int _ c=>match P.info? e,cu P e with
    | some i,some z=>match Nat.beq z.length i.size with
     | true=>∃ r:Row,(yY e i.size r/\0<=c/\c<=1048576/\i.bytes<=1048576)/\K S ⟨.own d,[(d,r)]⟩
     | false=>False
    | _,_=>False
   | _,_,_=>False
 | .call c=>match c.callee with
  | .value _=>match Jf (c.args.toList.map S.get)with
   | true=>E∨∃ (id g e:Nat) (ss:List Nat),(A8 S e && Nat.blt e S.h.length)=true/\ff (S.kill e) fun S'=>match A8 S' id with
    | true=>match S'.row id with
     | .nest ty sz j0 M8 d enc ys none l=>(g<l.length/\ss.map (fun s=>S'.t.getD s .any)=ss.map (fun _ => .mem id g)) /\
       ff (S'.explode id e (.vec M8 1 0 aR (ys (l.getD g d))) (.nest ty sz j0 M8 d enc ys (some g) l) ss) W
     | _=>False
    | false=>False
   | false=>E
  | _=>E
 | _=>E
/- Rows whose elements hold slices of their own: each operation does what its abstract twin says. A helper text: it speaks of no program. -/
section
variable {P:Program}{B:Nat->Prop}{w0:World}{F0:Env P}{S:St}{β:Nat->Option Hd}{F:Nat->Prop}{a:Act}{w:World}
theorem wy{α:Type}{sz j0:Nat}{d:α}{enc:α->List AV}{l:List α}{vs:Array Value}{cap:Nat}{w':World}{j off:Nat}{cs:List AV}{ls:Array Value}(e3:l.length<=cap)(e5:vs.size=cap*sz)(hj:j<l.length)
  (e6:∀ i k,i<l.length->k<sz->k≠j0->v7 F w' ((enc (l.getD i d)).getD k .any) (vs.getD (i*sz+k) undef)) (ku:off+cs.length<=sz) (c1:ls.size=cs.length) (c2:∀ i,i<cs.length->v7 F w' (cs.getD i .any) (ls.getD i undef))
  {y:α} (hy:∀ k,k≠j0->(enc y).getD k .any=(setCells (enc (l.getD j d)) off cs).getD k .any) (hlen:(enc (l.getD j d)).length=sz) :
  ∀ i k,i<(l.set j y).length->k<sz->k≠j0->v7 F w' ((enc ((l.set j y).getD i d)).getD k .any) ((z6 vs (j*sz+off) ls.toList).getD (i*sz+k) undef):=by
 intro p q hp hq oM;have PX:ls.toList.length=cs.length:=by simp[c1]
 have oJ:∀ k,k<sz->j*sz+k<vs.size:=fun k hk=>by
  rw[e5];exact z5 (zB5 hj e3) hk
 have dP:j*sz+off+cs.length<=vs.size:=by
  rcases Nat.eq_zero_or_pos (off+cs.length)with h0|h0
  ·have:=oJ q hq;rcases Nat.eq_zero_or_pos sz with IK|IK
   ·omega
   ·have:=oJ 0 IK;omega
  ·have:=oJ (off+cs.length-1) va5;omega
 have na:p<l.length:=by simpa using hp
 rw[D3 va5,PX];by_cases IL:p=j
 ·subst IL;have eg:(l.set p y).getD p d=y:=by simp[List.getD,na]
  rw[eg,hy q oM,eA va5];by_cases It:off<=q/\q<off+cs.length
  ·have c:p*sz+off<=p*sz+q/\p*sz+q<p*sz+off+cs.length:=by omega
   rw[if_pos It,if_pos c];have I5:=c2 (q-off) va5;have ee:ls.toList.getD (p*sz+q-(p*sz+off)) undef=ls.getD (q-off) undef:=by
    rw[show p*sz+q-(p*sz+off)=q-off by omega];simp[List.getD,Array.getD_eq_getD_getElem?]
   rw[ee];exact I5
  ·have c:¬ (p*sz+off<=p*sz+q/\p*sz+q<p*sz+off+cs.length):=by omega
   rw[if_neg It,if_neg c];exact e6 p q na hq oM
 ·have eg:(l.set j y).getD p d=l.getD p d:=by simp[List.getD,List.getElem?_set,Ne.symm IL]
  have c:¬ (j*sz+off<=p*sz+q/\p*sz+q<j*sz+off+cs.length):=by
   rcases Nat.lt_or_gt_of_ne IL with A2|tv
   ·have:=z5 A2 hq;omega
   ·have:(j+1)*sz<=p*sz:=Nat.mul_le_mul_right sz tv;rw[Nat.add_mul]at this;omega
  rw[eg,if_neg c];exact e6 p q na hq oM
theorem fv{sz j0 n cap j off:Nat}{vs:Array Value}{ls:List Value}(e5:vs.size=cap*sz)(e3:n<=cap)(hj:j<n)(ku:off+ls.length<=sz)(qo:j0<sz){i:Nat}(aW:i≠j∨¬ (off<=j0/\j0<off+ls.length)) :
  (z6 vs (j*sz+off) ls).getD (i*sz+j0) undef=vs.getD (i*sz+j0) undef:=by
 have oJ:∀ k,k<sz->j*sz+k<vs.size:=fun k hk=>by
  rw[e5];exact z5 (zB5 hj e3) hk
 have dP:j*sz+off+ls.length<=vs.size:=by
  rcases Nat.eq_zero_or_pos (off+ls.length)with h0|h0
  ·have:=oJ j0 qo;omega
  ·have:=oJ (off+ls.length-1) va5;omega
 rw[D3 va5,if_neg];rintro⟨h1,h2⟩;rcases aW with aW|aW
 ·rcases Nat.lt_or_gt_of_ne aW with A2|tv
  ·have:=z5 A2 qo;omega
  ·have:(j+1)*sz<=i*sz:=Nat.mul_le_mul_right sz tv;rw[Nat.add_mul]at this;omega
 ·by_cases e:i=j
  ·subst e;exact aW ⟨va5,va5⟩
  ·rcases Nat.lt_or_gt_of_ne e with A2|tv
   ·have:=z5 A2 qo;omega
   ·have:(j+1)*sz<=i*sz:=Nat.mul_le_mul_right sz tv;rw[Nat.add_mul]at this;omega
end
/- Rows whose elements hold slices of their own: stores. A helper text: it speaks of no program. -/
section
variable {P:Program}{B:Nat->Prop}{w0:World}{F0:Env P}{S:St}{β:Nat->Option Hd}{F:Nat->Prop}{a:Act}{w:World}
theorem bL{α:Type}{l:List α}{j:Nat}{y d:α}(hj:j<l.length)(i:Nat):(l.set j y).getD i d=if i=j then y else l.getD i d:=by
 simp only[List.getD,List.getElem?_set];by_cases e:j=i
 ·subst e;simp[hj]
 ·simp[e,Ne.symm e]
theorem wA{α:Type}{ys:α->List Int}{d:α}{ho:Option Nat}{l:List α}{j:Nat}{y:α}(hj:j<l.length)(i:Nat):ko ys d ho (l.set j y) i=if i=j then(if ho=some j then none else some (ys y))else ko ys d ho l i:=by
 unfold ko;rw[List.length_set,bL hj];by_cases e:i=j
 ·subst e;by_cases h:ho=some i<;>simp[h,hj]
 ·simp[e]
theorem Co(hR:Rel B w0 F0 S β F a w){o:Oper}{t:TypeId}{x y:Operand}(M4:o.op = .store t x y){id sz j off:Nat}(hg:S.get x = .ptr id sz j off){α:Type}{ty:TypeId}{j0:Nat}{M8:TypeId}{d:α}{enc:α->List AV}{ys:α->List Int}{ho:Option Nat}{l:List α}
  (hr:S.row id = .nest ty sz j0 M8 d enc ys ho l) {i:TypeInfo} (hi:P.info? t=some i) {cs:List AV} (uq:(S.get y).cells? = some cs) (H5:cs.length=i.size) (hlen:(enc (l.getD j d)).length=sz) (ku:off+cs.length<=sz) (qo:j0<sz)
  (wj:¬ (off<=j0/\j0<off+cs.length)) (Y7:F9 cs=true) {z:α} (he:enc z=setCells (enc (l.getD j d)) off cs) (TL:ys z=ys (l.getD j d)) (hj:j<l.length) {K:St->Out->Prop} (hK:K S ⟨.any,[(id,.nest ty sz j0 M8 d enc ys ho (l.set j z))]⟩)
  {Q:Exit->Act->World->Prop}:o.wp P a w (R6 B w0 F0 o.dst K) Q:=by
 obtain⟨c1,c2,c3⟩:=cells?_rep (hR.get y) uq;have PX:(a.eval y).cells.toList.length=cs.length:=by simp[c1]
 have tn:execOp a.eval o=(do Instr.storeAt t (a.eval x) (a.eval y);pure .skip):=by simp[execOp,M4]
 have hx:=hR.get x;rw[hg]at hx;obtain⟨hd,b,hb,hh,hv⟩:=hx.ptr_inv;rw[hv]at tn;obtain⟨lf,jJ⟩:=X5 hR hr hb;rcases jJ with ⟨h1,_⟩|⟨b',vs,e1,e2,e3,e4,e5,e6,e7,e8,e9⟩
 ·rw[h1]at hj;simp at hj
 rw[hh]at e1;cases e1
 have dP:j*sz+off+cs.length<=vs.size:=by
  have:(j+1)*sz<=hd.cap*sz:=Nat.mul_le_mul_right sz (zB5 hj e3);rw[Nat.add_mul]at this;rw[e5];omega
 have L9:=cQ (P:=P) hi e2 (v:=a.eval y) (o:=j*sz+off) va5 va5 c3;obtain⟨f1,f2,f3⟩:=O7 b vs (z6 vs (j*sz+off) (a.eval y).cells.toList) ty (0,0) e2;refine jk tn L9 ⟨_,_,hK,β,F,hR.write (by rw[hr];simp) (b:=b) (by rw[y0,hb];exact D2 hh) f1 f2 (fun _ => .imm (.any _)) (fun hk=>?_) (fun _ _ _ _ h=>by cases h)⟩;refine⟨hd,hb,by rw[lf];simp,.inr ⟨b,_,hh,f3,by simpa using e3,e4,by rw[D4 va5];exact e5,?_,fun p=>?_,e8,e9⟩⟩
 ·exact wy e3 e5 hj (fun p q hp hq oM=>(e6 p q hp hq oM).mono (fun _ h=>h) hk) ku c1 (fun p hp=>((c2 p hp).shut (G5 Y7 p)).mono (fun _ h=>h) hk) (fun k _=>by rw[he]) hlen
 ·rw[fv e5 e3 hj va5 qo (.inr (by rw[PX];exact wj))];have:ko ys d ho (l.set j z) p=ko ys d ho l p:=by
   rw[wA hj];split
   ·rename_i e;subst e;unfold ko;rw[TL];by_cases hh:ho=some p<;>simp[hh,hj]
   ·rfl
  rw[this];exact(e7 p).same fun c hc=>f2 c (e9 p c hc)
theorem yZ(hR:Rel B w0 F0 S β F a w){o:Oper}{t:TypeId}{x y:Operand}(M4:o.op = .store t x y){id i k:Nat}(hg:S.get x = .mptr id i k){α:Type}{ty:TypeId}{sz j0:Nat}{M8:TypeId}{d:α}{enc:α->List AV}{ys:α->List Int}{l:List α}
  (hr:S.row id = .nest ty sz j0 M8 d enc ys none l) {inf:TypeInfo} (hi:P.info? t=some inf) (H5:inf.size=1) {n:Int} (hy:S.get y = .int .i64 n) {z:α} (TL:ys z=(ys (l.getD i d)).set k n) (he:(enc z).set j0 .any=(enc (l.getD i d)).set j0 .any)
  {K:St->Out->Prop} (hK:K S ⟨.any,[(id,.nest ty sz j0 M8 d enc ys none (l.set i z))]⟩) {Q:Exit->Act->World->Prop}:o.wp P a w (R6 B w0 F0 o.dst K) Q:=by
 have tn:execOp a.eval o=(do Instr.storeAt t (a.eval x) (a.eval y);pure .skip):=by simp[execOp,M4]
 have hx:=hR.get x;have IQ:=hR.get y;rw[hy]at IQ;rw[hg]at hx;rw[IQ.int_inv]at tn;obtain⟨hd,c,hb,hh,oJ,Yj,hv⟩:∃ hd c,β id=some hd/\(hd.m i).1=some c/\i<hd.len/\k<(hd.m i).2.1/\a.eval x = .pointer (some ⟨c,k,none⟩):=by
  generalize a.eval x=v at hx;cases hx with
  | imm h=>cases h
  | mptr hb hh hi hk=>exact⟨_,_,hb,hh,hi,hk,rfl⟩
 rw[hv]at tn;obtain⟨lf,jJ⟩:=X5 hR hr hb;rcases jJ with ⟨h1,_⟩|⟨b,vs,e1,e2,e3,e4,e5,e6,e7,e8,e9⟩
 ·rw[lf,h1]at oJ;simp at oJ
 rw[lf]at oJ;have hm:=e7 i;rw[ko,if_pos ⟨oJ,by simp⟩]at hm;obtain⟨m1,m2,m3⟩:=hm;rcases m3 with ⟨_,m4,_⟩|⟨c',us,m4,m5,m6,m7,m8,m9⟩
 ·rw[m4]at hh;cases hh
 rw[hh]at m4;cases m4
 rw[m2]at Yj;obtain⟨ME,To⟩:=wh he;have Vh:(Value.int IntKind.i64 n).cells.toList=[.int .i64 n]:=by simp[Value.cells]
 have Wo:(Value.int IntKind.i64 n).cells.size=1:=by simp[Value.cells]
 have L9:=cQ (P:=P) hi m5 (v := .int .i64 n) (o:=k) (by rw[H5,Wo]) va5 (fun u hu=>by rw[Vh]at hu;simp at hu;rw[hu];rfl);obtain⟨f1,f2,f3⟩:=O7 c us (z6 us k (Value.int IntKind.i64 n).cells.toList) M8 (0,0) m5;refine jk tn L9 ⟨_,_,hK,β,F,hR.write (by rw[hr];simp) (b:=c) (by rw[y0,hb];exact cV hh) f1 f2 (fun _ => .imm (.any _)) (fun hk=>?_) (fun _ _ _ _ h=>by cases h)⟩;refine⟨hd,hb,by rw[lf];simp,.inr ⟨b,vs,e1,(f2 b fun e=>e9 i c hh e.symm).trans e2,by simpa using e3,e4,e5,fun p q hp hq oM=>?_,fun p=>?_,e8,e9⟩⟩
 ·rw[bL oJ];have na:p<l.length:=by simpa using hp
  split
  ·rename_i e;subst e;rw[To q oM];exact(e6 p q na hq oM).mono (fun _ h=>h) hk
  ·exact(e6 p q na hq oM).mono (fun _ h=>h) hk
 ·rw[wA oJ];split
  ·rename_i e;subst e;have aW:¬ ((none:Option Nat)=some p):=by simp
   rw[if_neg aW,TL];refine⟨m1,by rw[m2];simp,.inr ⟨c,_,hh,f3,by simpa using m6,m7,by rw[D4 (by rw[Vh];simp;omega)];exact m8,fun q hq=>?_⟩⟩;have Ef:q<(ys (l.getD p d)).length:=by simpa using hq
   rw[D3 (by rw[Vh];simp;omega),Vh,bL Yj];by_cases e:q=k
   ·subst e;simp
   ·rw[if_neg e,if_neg (by simp only[zB2,List.length_nil];omega)];exact m9 q Ef
  ·rename_i e;exact(e7 p).same fun c2 Cp=>f2 c2 fun e2=>e (e8 p i c (by rw[<- e2];exact Cp) hh)
end
/- Rows whose elements hold slices of their own: a slice is laid into an element, or taken out. A helper text: it speaks of no program. -/
section
variable {P:Program}{B:Nat->Prop}{w0:World}{F0:Env P}{S:St}{β:Nat->Option Hd}{F:Nat->Prop}{a:Act}{w:World}
def Hd.setM(hd:Hd)(j:Nat)(m:Option Nat×Nat×Nat):Hd:=⟨hd.b,hd.len,hd.cap,fun p=>if p=j then m else hd.m p⟩
theorem R7(hd:Hd)(j:Nat)(m):(hd.setM j m).m j=m:=by simp[Hd.setM]
theorem N9{hd:Hd}{j p:Nat}(h:p≠j)(m):(hd.setM j m).m p=hd.m p:=by simp[Hd.setM,h]
theorem a2j(S:St)(id:Nat)(cons:List Nat)(r:Row)(C0:S.row id ≠ .none)(j:Nat) :
  (St.row ⟨(S.noMem id).t,u6 (S.noMem id).h (cons.map (fun i=>(i,.none))++[(id,r)]),S.n⟩ j)=if id=j then r else if j ∈ cons then .none else J0 id (S.row j):=by
 show(u6 (S.noMem id).h (cons.map (fun i=>(i,.none))++[(id,r)])).getD j .none=_
 have A2:=fV C0;rw[pk];simp only[u6,s9,aA,rm];have e:(S.noMem id).h.length=S.h.length:=by simp[St.noMem]
 have e2:(S.noMem id).h.getD j .none=J0 id (S.row j):=jl S id j;rw[e,e2];by_cases hj:id=j<;>simp[hj]
 subst hj;intro hh;omega
theorem a2k{m:Option Nat×Nat×Nat}{M8:TypeId}{zs:List Int}{v:Value}(h:ij w M8 m (some zs) v){β:Nat->Option Hd}{e:Nat}(he:β e=some ⟨m.1,m.2.1,m.2.2,iw⟩):A3 β F w e (.vec M8 1 (0:Int) aR zs):=by
 obtain⟨h1,h2,h3⟩:=h;refine⟨_,he,rfl,h2,?_⟩;rcases h3 with ⟨h3,h4,h5⟩|⟨c,us,h4,h5,h6,h7,h8,h9⟩
 ·exact .inl ⟨h3,h4,h5⟩
 ·refine .inr ⟨c,us,h4,h5,h6,h7,by simpa using h8,fun i j hi hj=>?_⟩;have e:j=0:=by omega
  subst e;rw[Nat.mul_one,Nat.add_zero,h9 i hi];exact .int _ _
theorem ze(hR:Rel B w0 F0 S β F a w){o:Oper}{t:TypeId}{x y:Operand}(M4:o.op = .store t x y){id sz j j0:Nat}(hg:S.get x = .ptr id sz j j0){α:Type}{ty:TypeId}{M8:TypeId}{d:α}{enc:α->List AV}{ys:α->List Int}{ho:Option Nat}{l:List α}
  (hr:S.row id = .nest ty sz j0 M8 d enc ys ho l) {i:TypeInfo} (hi:P.info? t=some i) {e:Nat} (uq:(S.get y).cells? = some [.own e]) (H5:1=i.size) (hlen:(enc (l.getD j d)).length=sz) (qo:j0<sz)
  (hk:A8 S id=true) {zs:List Int} (FY:S.row e = .vec M8 1 (0:Int) aR zs) {z:α} (TL:ys z=zs) (he:(enc z).set j0 .any=(enc (l.getD j d)).set j0 .any) (hj:j<l.length) (SI:TK ho j) (qL:o.dst=none)
  {K:St->Out->Prop} (hK:K (S.noMem id) ⟨.any,[(e,.none),(id,.nest ty sz j0 M8 d enc ys none (l.set j z))]⟩) {Q:Exit->Act->World->Prop}:o.wp P a w (R6 B w0 F0 o.dst K) Q:=by
 obtain⟨c1,c2,c3⟩:=cells?_rep (hR.get y) uq;simp only[zB2,List.length_nil,Nat.zero_add]at c1 c2;have cv:=c2 0 va5;simp only[List.getD_cons_zero]at cv;obtain⟨v0,hv0⟩:∃ v0,(a.eval y).cells.toList=[v0]:=by
  match hh:(a.eval y).cells.toList,(by simp[c1]:(a.eval y).cells.toList.length=1)with
  | [v0],_=>exact⟨v0,rfl⟩
 have We:(a.eval y).cells.getD 0 undef=v0:=by
  have:(a.eval y).cells=#[v0]:=by rw[<- Array.toArray_toList (xs:=(a.eval y).cells),hv0]
  rw[this];rfl
 rw[We]at cv;obtain⟨Mu,Ek,Zy⟩:=cv.own_inv;have aW:e≠id:=fun h=>by subst h;rw[FY]at hr;cases hr
 have tn:execOp a.eval o=(do Instr.storeAt t (a.eval x) (a.eval y);pure .skip):=by simp[execOp,M4]
 have hx:=hR.get x;rw[hg]at hx;obtain⟨hd,b,hb,hh,hv⟩:=hx.ptr_inv;rw[hv]at tn;obtain⟨lf,jJ⟩:=X5 hR hr hb;rcases jJ with ⟨h1,_⟩|⟨b',vs,e1,e2,e3,e4,e5,e6,e7,e8,e9⟩
 ·rw[h1]at hj;simp at hj
 rw[hh]at e1;cases e1
 have dP:j*sz+j0+1<=vs.size:=by
  have:(j+1)*sz<=hd.cap*sz:=Nat.mul_le_mul_right sz (zB5 hj e3);rw[Nat.add_mul]at this;rw[e5];omega
 have C0:S.row id ≠ .none:=by rw[hr];simp
 have Yk:∀ p,p≠j->ko ys d ho l p=ko ys d none l p:=fun p hp=>by
  unfold ko;have h0:¬ ((none:Option Nat)=some p):=by simp
  cases ho with
  | none=>rfl
  | some h =>
   have:h=j:=SI;subst this;have:¬ (some h=some p):=by simp[Ne.symm hp]
   simp[this]
 -- the slice that the element held is given up
 have key:∀ {w':World} {F':Nat->Prop} {SJ:Array Value} {β':Nat->Option Hd},C5 F w w'->β' id=some (hd.setM j (none,0,0))->w'.heap[b]? = some (.cells SJ ty (0,0))->(∀ p c,(hd.m p).1=some c->w'.heap[c]? = w.heap[c]?)->SJ.size=vs.size ->
   (∀ p q,p<l.length->q<sz->q≠j0->SJ.getD (p*sz+q) undef=vs.getD (p*sz+q) undef)->(∀ p,p≠j->SJ.getD (p*sz+j0) undef=vs.getD (p*sz+j0) undef)->A3 β' F w' id (.nest ty sz j0 M8 d enc ys (some j) l):=by
  intro w' _ SJ β' Mv nc TM Jg iH I5 MW;refine⟨_,nc,lf,.inr ⟨b,SJ,hh,TM,e3,e4,by rw[iH];exact e5,fun p q hp hq oM=>by rw[I5 p q hp hq oM];exact(e6 p q hp hq oM).mono (fun _ h=>h) Mv,fun p=>?_,fun p q c hp hq=>?_,fun p c hp=>?_⟩⟩
  ·by_cases e:p=j
   ·subst e;rw[R7];have:ko ys d (some p) l p=none:=by simp[ko]
    rw[this];rfl
   ·rw[N9 e,MW p e];have:ko ys d (some j) l p=ko ys d ho l p:=by
     rw[Yk p e];unfold ko;have h1:(some j:Option Nat)≠some p:=by simp[Ne.symm e]
     simp[h1]
    rw[this];exact(e7 p).same (Jg p)
  ·by_cases ep:p=j
   ·subst ep;rw[R7]at hp;cases hp
   ·by_cases eq:q=j
    ·subst eq;rw[R7]at hq;cases hq
    ·rw[N9 ep]at hp;rw[N9 eq]at hq;exact e8 p q c hp hq
  ·by_cases ep:p=j
   ·subst ep;rw[R7]at hp;cases hp
   ·rw[N9 ep]at hp;exact e9 p c hp
 obtain⟨β1,g1,g2,jK⟩:=hR.held hb (hR.topn id hk) C0 (hd':=hd.setM j (none,0,0)) rfl rfl rfl (cons:=[]) va9 (r := .nest ty sz j0 M8 d enc ys (some j) l)
  (fun β' h _=>key (F':=F) (C5.refl _ _) h e2 (fun _ _ _=>rfl) rfl (fun _ _ _ _ _=>rfl) (fun _ _=>rfl)) (fun _ _ _ _ h=>by cases h) (fun c hc => .inl (by
   rw[y0,hb];rcases hc with hc|⟨p,hc⟩
   ·exact .inl hc
   ·by_cases ep:p=j
    ·subst ep;rw[R7]at hc;cases hc
    ·rw[N9 ep]at hc;exact .inr ⟨p,hc⟩))
 have MX:=a2j S id [] (.nest ty sz j0 M8 d enc ys (some j) l) C0
 -- the write
 have L9:=cQ (P:=P) hi e2 (v:=a.eval y) (o:=j*sz+j0) (by rw[c1];exact H5) va5 c3;obtain⟨f1,f2,f3⟩:=O7 b vs (z6 vs (j*sz+j0) (a.eval y).cells.toList) ty (0,0) e2;have I5:∀ p q,p<l.length->q<sz->q≠j0->(z6 vs (j*sz+j0) (a.eval y).cells.toList).getD (p*sz+q) undef=vs.getD (p*sz+q) undef:=fun p q hp hq oM=>by
  rw[hv0,D3 (by simpa using dP),if_neg];simp only[zB2,List.length_nil,Nat.zero_add];rintro⟨q1,q2⟩;have q3:p*sz+q=j*sz+j0:=by omega
  rcases Nat.lt_trichotomy p j with A2|rfl|tv
  ·have:=z5 A2 hq;omega
  ·omega
  ·have:(j+1)*sz<=p*sz:=Nat.mul_le_mul_right sz tv;rw[Nat.add_mul]at this;omega
 have MW:∀ p,p≠j->(z6 vs (j*sz+j0) (a.eval y).cells.toList).getD (p*sz+j0) undef=vs.getD (p*sz+j0) undef:=fun p hp =>
  fv e5 e3 hj (by rw[hv0];simp only[zB2,List.length_nil];omega) qo (.inl hp)
 have Cd:(z6 vs (j*sz+j0) (a.eval y).cells.toList).size=vs.size:=D4 (by rw[hv0];simpa using dP);have lI:=jK.write (id:=id) (b:=b) (dst:=none) (x := .any) (v:=undef) (r := .nest ty sz j0 M8 d enc ys (some j) l) (by rw[MX];simp) (by rw[y0,g1];exact D2 hh) f1 f2 (fun _ => .imm (.any _))
  (fun Mv=>key (F':=F) Mv g1 f3 (fun p c hc=>f2 c (e9 p c hc)) Cd I5 MW) (fun _ _ _ _ h=>by cases h)
 generalize Vi:(⟨(S.noMem id).t,u6 (S.noMem id).h (([]:List Nat).map (fun i=>(i,.none))++[(id,.nest ty sz j0 M8 d enc ys (some j) l)]),S.n⟩:St)=S1 at jK lI MX;have t1:S1.t=(S.noMem id).t:=by rw[<- Vi]
 have n1:S1.n=S.n:=by rw[<- Vi]
 have Cq:id<S1.h.length:=fV (by rw[MX];simp);have MZ:∀ p,(S1.put none ⟨.any,[(id,.nest ty sz j0 M8 d enc ys (some j) l)]⟩).row p=if id=p then .nest ty sz j0 M8 d enc ys (some j) l else J0 id (S.row p):=fun p=>by
  show(u6 S1.h [(id,_)]).getD p .none=_
  simp only[u6,s9];by_cases ep:id=p
  ·simp[ep,Cq];subst ep;intro h;omega
  ·simp only[ep,false_and,if_false];have:=MX p;rw[if_neg ep]at this;simpa[St.row]using this
 have Wp:β1 e=some Mu:=(g2 e aW).trans Ek;obtain⟨hle,Wq⟩:=ay hR FY Ek;have bne:∀ c,Mu.b=some c->c≠b/\∀ p,(hd.m p).1≠some c:=fun c hc=>by
  have o1:y0 β e c:=by rw[y0,Ek];exact D2 hc
  have IJ:S.row e ≠ .none:=by rw[FY];simp
  refine⟨fun h=>?_,fun p h=>?_⟩
  ·subst h;exact aW (hR.inj e id c IJ C0 o1 (by rw[y0,hb];exact D2 hh))
  ·exact aW (hR.inj e id c IJ C0 o1 (by rw[y0,hb];exact cV h))
 have Ym:C5 F w (w.setRow b (z6 vs (j*sz+j0) (a.eval y).cells.toList)):=fun k o' u hF hc=>by
  have:k≠b:=fun h=>hR.bF id b C0 (by rw[y0,hb];exact D2 hh) (h ▸ hF)
  rw[World.cell?_of_block (w:=w) (f2 k this)];exact hc
 obtain⟨ME,To⟩:=wh he
 -- the new slice is taken over
 obtain⟨β2,g3,g4,iy⟩:=lI.held g1 (hR.topn id hk) (by rw[MZ];simp) (hd':=hd.setM j (Mu.b,Mu.len,Mu.cap)) rfl rfl rfl (cons:=[e]) (by simp[Ne.symm aW]) (r := .nest ty sz j0 M8 d enc ys none (l.set j z))
  (fun β' h _=>by
   refine⟨_,h,by rw[List.length_set];exact lf,.inr ⟨b,_,hh,f3,by rw[List.length_set];exact e3,e4,by rw[Cd];exact e5,fun p q hp hq oM=>?_,fun p=>?_,fun p q c hp hq=>?_,fun p c hp=>?_⟩⟩
   ·have na:p<l.length:=by simpa using hp
    rw[I5 p q na hq oM,bL hj];split
    ·rename_i ep;subst ep;rw[To q oM];exact(e6 p q na hq oM).mono (fun _ h=>h) Ym
    ·exact(e6 p q na hq oM).mono (fun _ h=>h) Ym
   ·rw[wA hj];by_cases ep:p=j
    ·subst ep;rw[R7,if_pos rfl,if_neg va9,TL];have ev:(z6 vs (p*sz+j0) (a.eval y).cells.toList).getD (p*sz+j0) undef=v0:=by
      rw[hv0,D3 (by simpa using dP),if_pos ⟨Nat.le_refl _,by simp⟩,Nat.sub_self];rfl
     rw[ev];refine(oK hle Wq Zy).same fun c hc=>f2 c (bne c hc).1
    ·rw[N9 ep,if_neg ep,MW p ep,<- Yk p ep];exact(e7 p).same fun c hc=>f2 c (e9 p c hc)
   ·by_cases ep:p=j
    ·by_cases eq:q=j
     ·rw[ep,eq]
     ·subst ep;rw[R7]at hp;rw[N9 eq]at hq;exact absurd hq ((bne c hp).2 q)
    ·by_cases eq:q=j
     ·subst eq;rw[R7]at hq;rw[N9 ep]at hp;exact absurd hp ((bne c hq).2 p)
     ·rw[N9 ep]at hp;rw[N9 eq]at hq;exact e8 p q c hp hq
   ·by_cases ep:p=j
    ·subst ep;rw[R7]at hp;exact(bne c hp).1
    ·rw[N9 ep]at hp;exact e9 p c hp) (fun _ _ _ _ h=>by cases h)
  (fun c hc=>by
   rcases hc with hc|⟨p,hc⟩
   ·exact .inl (by rw[y0,g1];exact .inl hc)
   ·by_cases ep:p=j
    ·subst ep;rw[R7]at hc;exact .inr ⟨e,by simp,by rw[MZ,if_neg (Ne.symm aW),FY];simp[J0],by rw[y0,Wp];exact D2 hc⟩
    ·rw[N9 ep]at hc
     exact .inl (by rw[y0,g1];exact .inr ⟨p,by rw[N9 ep];exact hc⟩))
 have TN:a.put o.dst undef=a:=by rw[qL];rfl
 have TO:a.put none undef=a:=rfl;rw[TO]at iy;refine jk tn L9 ⟨_,_,hK,β2,F,?_⟩;rw[TN];have Wr:=a2j (S1.put none ⟨.any,[(id,.nest ty sz j0 M8 d enc ys (some j) l)]⟩) id [e] (.nest ty sz j0 M8 d enc ys none (l.set j z)) (by rw[MZ];simp);refine iy.forget ?_ (by rw[qL];exact n1.symm) fun p => .inl ?_
 ·rw[qL];show(S.noMem id).t=(S1.t).map (N8 id)
  rw[t1];exact(congrArg St.t (yX S id)).symm
 ·rw[Wr p,qL];show(u6 (S.noMem id).h [(e,.none),(id,_)]).getD p .none=_
  have Zz:id<(S.noMem id).h.length:=by have:=fV C0;simpa[St.noMem]using this
  simp only[u6,s9,List.length_set];by_cases ep:id=p
  ·simp[ep];subst ep;intro h;omega
  ·simp only[ep,false_and,if_false,List.mem_singleton];by_cases eq:e=p
   ·subst eq;have:e<(S.noMem id).h.length:=by have:=fV (S:=S) (id:=e) (by rw[FY];simp);simpa[St.noMem]using this
    simp[this]
   ·rw[if_neg (fun h=>eq h.1),if_neg (fun h=>eq h.symm),MZ,if_neg ep,iI];exact jl S id p
end
/- Rows whose elements hold slices of their own: a slice is taken out; append; the rest; all of them together. A helper text: it speaks of no program. -/
section
variable {P:Program}{B:Nat->Prop}{w0:World}{F0:Env P}{S:St}{β:Nat->Option Hd}{F:Nat->Prop}{a:Act}{w:World}
theorem kf(x:AV):∀ (ss:List Nat) (t:List AV),(gi t x ss).length=t.length
 | [],_=>rfl
 | s :: ss,t=>by simp only[gi];rw[kf x ss];simp
theorem oO(x:AV):∀ (ss:List Nat) (t:List AV) (i:Nat),i<t.length->(gi t x ss).getD i .any=if i ∈ ss then x else t.getD i .any
 | [],_,_,_=>by simp[gi]
 | s :: ss,t,i,hi=>by
  simp only[gi];rw[oO x ss _ i (by simpa using hi),Q9];by_cases h1:i ∈ ss
  ·simp[h1]
  ·by_cases h2:i=s
   ·subst h2;simp[h1,hi]
   ·simp[h1,h2,Ne.symm h2]
theorem Rel.explode(hR:Rel B w0 F0 S β F a w){id g e:Nat}{α:Type}{ty:TypeId}{sz j0:Nat}{M8:TypeId}{d:α}{enc:α->List AV}{ys:α->List Int}{l:List α}(hr:S.row id = .nest ty sz j0 M8 d enc ys none l)(hk:A8 S id=true)
  (he:β e=none) (hle:e<S.h.length) (hg:g<l.length) {ss:List Nat} (ZA:∀ s ∈ ss,S.t.getD s .any = .mem id g) :
  ∃ β',Rel B w0 F0 (S.explode id e (.vec M8 1 (0:Int) aR (ys (l.getD g d))) (.nest ty sz j0 M8 d enc ys (some g) l) ss) β' F a w:=by
 have C0:S.row id ≠ .none:=by rw[hr];simp
 obtain⟨hd,hb⟩:=(hR.rows id).some C0;have aW:e≠id:=fun h=>by subst h;rw[he]at hb;cases hb
 have he0:S.row e = .none:=by
  cases h:S.row e with
  | none=>rfl
  | _ =>
   obtain⟨qD,h2⟩:=(hR.rows e).some (by rw[h];simp);rw[he]at h2;cases h2
 obtain⟨lf,jJ⟩:=X5 hR hr hb;rcases jJ with ⟨h1,_⟩|⟨b,vs,e1,e2,e3,e4,e5,e6,e7,e8,e9⟩
 ·rw[h1]at hg;simp at hg
 have hm:=e7 g;rw[ko,if_pos ⟨hg,by simp⟩]at hm
 let kC:=hd.setM g (none,0,0)
 let Mu:Hd:=⟨(hd.m g).1,(hd.m g).2.1,(hd.m g).2.2,iw⟩
 let β':Nat->Option Hd:=fun j=>if j=id then some kC else if j=e then some Mu else β j
 have b1:β' id=some kC:=by simp[β']
 have b2:β' e=some Mu:=by simp[β',aW]
 have b3:∀ j,j≠id->j≠e->β' j=β j:=fun j h1 h2=>by simp[β',h1,h2]
 have b4:∀ j,j≠id->β j≠none->β' j=β j:=fun j h1 h2=>b3 j h1 fun h=>h2 (h ▸ he)
 let r1:Row := .vec M8 1 (0:Int) aR (ys (l.getD g d))
 let r2:Row := .nest ty sz j0 M8 d enc ys (some g) l
 have Ws:=fV C0;have C2:∀ j,(S.explode id e r1 r2 ss).row j=if id=j then r2 else if e=j then r1 else J0 id (S.row j):=fun j=>by
  show((((S.noMem id).h.set e r1).set id r2)).getD j .none=_
  rw[s9,s9];have hh:(S.noMem id).h.length=S.h.length:=by simp[St.noMem]
  have e2:(S.noMem id).h.getD j .none=J0 id (S.row j):=jl S id j;rw[List.length_set,hh,e2];by_cases ej:id=j
  ·subst ej;simp[Ws]
  ·by_cases Yn:e=j
   ·subst Yn;simp[ej,hle]
   ·simp[ej,Yn]
 have live:∀ j,j≠id->j≠e->(S.explode id e r1 r2 ss).row j ≠ .none->S.row j ≠ .none:=fun j h1 h2 h=>by
  rw[C2,if_neg (Ne.symm h1),if_neg (Ne.symm h2)]at h;exact fun h3=>h (ke.2 h3)
 have o1:∀ c,y0 β' id c->y0 β id c/\(hd.m g).1≠some c:=fun c hc=>by
  rw[y0,b1]at hc;rw[y0,hb];rcases hc with hc|⟨p,hc⟩
  ·refine⟨.inl hc,fun h=>?_⟩;have:hd.b=some c:=hc;rw[e1]at this;cases this
   exact e9 g b h rfl
  ·have hp:p≠g:=fun h=>by subst h;rw[show kC.m p=(none,0,0) from R7 _ _ _]at hc;cases hc
   rw[show kC.m p=hd.m p from N9 hp _]at hc;exact⟨.inr ⟨p,hc⟩,fun h=>hp (e8 p g c hc h)⟩
 have o2:∀ c,y0 β' e c->(hd.m g).1=some c:=fun c hc=>by
  rw[y0,b2]at hc;exact P3.1 hc
 have o3:∀ c,(hd.m g).1=some c->y0 β id c:=fun c hc=>by rw[y0,hb];exact cV hc
 have o4:∀ j c,j≠id->j≠e->(y0 β' j c↔y0 β j c):=fun j c h1 h2=>by rw[y0,y0,b3 j h1 h2]
 refine⟨β',hR.trade (by show(gi _ _ _).length=_;rw[kf];simp[St.noMem]) rfl (fun i hi=>?_) (fun j=>?_) (fun i j c hi hj B9 U4=>?_) (fun i c hi B9=>?_) (fun i c B9=>?_) (fun j qD hj=>?_) (fun j l' xs k e' h=>?_)⟩
 ·show B4 β' F w ((gi (S.noMem id).t (.own e) ss).getD i .any) _
  have bO:i<(S.noMem id).t.length:=by simpa[St.noMem]using hi
  rw[oO _ _ _ _ bO];split
  ·rename_i hs;have:=hR.slots i hi;rw[ZA i hs]at this;generalize a.tmps.getD i undef=v at this;cases this with
   | imm h=>cases h
   | @mem _ _ qD dA _ =>
    rw[hb]at dA;cases dA
    exact B4.own b2
  ·show B4 β' F w ((S.t.map (N8 id)).getD i .any) _
   rw[s7 _ (dO id)];exact(hR.slots i hi).noMem hb b1 rfl rfl rfl b4
 ·rw[C2];split
  ·rename_i ej;subst ej;refine⟨kC,b1,lf,.inr ⟨b,vs,e1,e2,e3,e4,e5,e6,fun p=>?_,fun p q c hp hq=>?_,fun p c hp=>?_⟩⟩
   ·by_cases ep:p=g
    ·subst ep;rw[show kC.m p=(none,0,0) from R7 _ _ _];have:ko ys d (some p) l p=none:=by simp[ko]
     rw[this];rfl
    ·rw[show kC.m p=hd.m p from N9 ep _];have:ko ys d (some g) l p=ko ys d none l p:=by
      unfold ko;have h1:(some g:Option Nat)≠some p:=by simp[Ne.symm ep]
      simp[h1]
     rw[this];exact e7 p
   ·by_cases ep:p=g
    ·subst ep;rw[show kC.m p=(none,0,0) from R7 _ _ _]at hp;cases hp
    ·by_cases eq:q=g
     ·subst eq;rw[show kC.m q=(none,0,0) from R7 _ _ _]at hq;cases hq
     ·rw[show kC.m p=hd.m p from N9 ep _]at hp;rw[show kC.m q=hd.m q from N9 eq _]at hq;exact e8 p q c hp hq
   ·by_cases ep:p=g
    ·subst ep;rw[show kC.m p=(none,0,0) from R7 _ _ _]at hp;cases hp
    ·rw[show kC.m p=hd.m p from N9 ep _]at hp;exact e9 p c hp
  ·split
   ·rename_i ej;subst ej;exact a2k hm b2
   ·rename_i h1 h2;exact lM hb b1 rfl rfl rfl b4 (Ne.symm h1) (hR.rows j)
 ·by_cases i1:i=id
  ·by_cases j1:j=id
   ·rw[i1,j1]
   ·exfalso;subst i1;obtain⟨q1,q2⟩:=o1 c B9;by_cases j2:j=e
    ·subst j2;exact q2 (o2 c U4)
    ·rw[o4 j c j1 j2]at U4;exact j1 (hR.inj j i c (live j j1 j2 hj) C0 U4 q1)
  ·by_cases i2:i=e
   ·by_cases j1:j=id
    ·exfalso;subst i2;subst j1;exact(o1 c U4).2 (o2 c B9)
    ·by_cases j2:j=e
     ·rw[i2,j2]
     ·exfalso;subst i2;rw[o4 j c j1 j2]at U4;exact j1 (hR.inj j id c (live j j1 j2 hj) C0 U4 (o3 c (o2 c B9)))
   ·rw[o4 i c i1 i2]at B9;by_cases j1:j=id
    ·exfalso;subst j1;exact i1 (hR.inj i j c (live i i1 i2 hi) C0 B9 (o1 c U4).1)
    ·by_cases j2:j=e
     ·exfalso;subst j2;exact i1 (hR.inj i id c (live i i1 i2 hi) C0 B9 (o3 c (o2 c U4)))
     ·rw[o4 j c j1 j2]at U4;exact hR.inj i j c (live i i1 i2 hi) (live j j1 j2 hj) B9 U4
 ·by_cases i1:i=id
  ·subst i1;exact⟨i,C0,(o1 c B9).1⟩
  ·by_cases i2:i=e
   ·subst i2;exact⟨id,C0,o3 c (o2 c B9)⟩
   ·rw[o4 i c i1 i2]at B9;exact⟨i,live i i1 i2 hi,B9⟩
 ·by_cases i1:i=id
  ·subst i1;exact⟨i,(o1 c B9).1⟩
  ·by_cases i2:i=e
   ·subst i2;exact⟨id,o3 c (o2 c B9)⟩
   ·rw[o4 i c i1 i2]at B9;exact⟨i,B9⟩
 ·have h1:j≠id:=fun h=>by subst h;rw[hR.topn _ hk]at hj;cases hj
  have h2:j≠e:=fun h=>by subst h;rw[hR.top _ _ hj]at he;cases he
  exact(b3 j h1 h2).trans (hR.top j qD hj)
 ·rw[C2]at h;split at h
  ·exact absurd h (by simp[r2])
  ·split at h
   ·exact absurd h (by simp[r1])
   ·cases Jb:S.row j<;>rw[Jb]at h<;>simp[J0]at h
    simp[h]
end
/- Rows whose elements hold slices of their own: all operations. A helper text: it speaks of no program. -/
section
variable {P:Program}{B:Nat->Prop}{w0:World}{F0:Env P}{S:St}{β:Nat->Option Hd}{F:Nat->Prop}{a:Act}{w:World}
theorem Gc(hR:Rel B w0 F0 S β F a w){o:Oper}{t e:TypeId}{k:IntKind}{y:Operand}(ho:o.op = .makeSlice t (.const (.int k 0)) y){d:Nat}(hd:o.dst=some d)(B3:β d=none)(hu:P.underlying t=some (.slice e)){k':IntKind}{c:Int}(hy:S.get y = .int k' c)
  {i:TypeInfo} {z:List AV} (hi:P.info? e=some i) (hz:cu P e=some z) (tj:z.length=i.size) {r:Row} (hr:yY e i.size r) (h0:0<=c) (h1:c<=1048576) (Zh:i.bytes<=1048576) {K:St->Out->Prop} (hK:K S ⟨.own d,[(d,r)]⟩) {Q:Exit->Act->World->Prop} :
  o.wp P a w (R6 B w0 F0 o.dst K) Q:=by
 obtain⟨i',zv,bO,BQ,_,Is⟩:=Y6 (β:=β) (F:=F) (w:=w) hz;rw[hi]at bO; cases bO
 have IQ:=hR.get y;rw[hy]at IQ;have Wt:a.eval (.const (.int k 0)) = .int k 0:=rfl;have M4:execOp a.eval o=(do pure (.value (<- Instr.makeSlice t (a.eval (.const (.int k 0))) (a.eval y)))):=by simp[execOp,ho]
 rw[Wt,IQ.int_inv]at M4;have hw:IntKind.i64.wrap c=c:=IntWalk.i64_in c va5;have SK:IntKind.i64.wrap 0=0:=by decide
 have VS:(i.bytes:Int)*c<=1048576*1048576:=Int.mul_le_mul (show(i.bytes:Int)<=1048576 by omega) h1 h0 va5;have Qb:¬ ((281474976710656:Int)<(i.bytes:Int)*c):=by omega
 have TP:¬ ((281474976710656:Int)<(i.bytes:Int)*0):=by omega
 have IS:¬ c<0:=by omega
 have bP:¬ (roomBytes<c.toNat*i.bytes):=by
  have e:((c.toNat*i.bytes:Nat):Int)=(i.bytes:Int)*c:=by rw[Int.natCast_mul,Int.toNat_of_nonneg h0,Int.mul_comm]
  simp only[roomBytes];omega
 let cells:Array Value:=(Array.range (c.toNat*i.size)).map (zv.cells[· % zv.cells.size]!)
 have L9:(Instr.makeSlice t (.int k 0) (.int k' c)).run P w = .ok (.slice (some ⟨w.heap.size,0,none⟩) 0 c.toNat) (w.alloc (.cells cells e)):=by
  simp only[Instr.makeSlice,Sem.run_bind,run_underlying hu,Result.andThen_ok,asInt,asIntOf,Sem.run_pure,typeInfo,run_program,hi,hw,SK];simp only[IS,show ¬ ((0:Int)<0)by decide,show ¬ ((0:Int) > c)by omega,decide_false,Bool.false_or,Bool.or_false,gt_iff_lt,Int.lt_irrefl,show(2:Int)^48=281474976710656 by rfl,Qb,TP,Int.mul_zero,zB0,if_false,askRoom,bP];simp only[Sem.run_bind,Sem.run_pure,Result.andThen_ok,run_sizeOf w hi,Program.cellsOf,hi,Option.map_some,Option.getD_some];split
  ·rename_i VU;have e0:∀ (f g:Nat->Value),(Array.range (c.toNat*i.size)).map f=(Array.range (c.toNat*i.size)).map g:=fun f g=>by rw[VU];simp
   simp only[Sem.run_bind,Sem.run_pure,Result.andThen_ok];rw[e0 _ (zv.cells[· % zv.cells.size]!)];simp[newRow,cells]
  ·simp only[Sem.run_bind,zeroValue,typeInfo,run_program,hi,BQ,Result.andThen_ok,Sem.run_pure];simp[newRow,cells]
 obtain⟨β',g1,g2⟩:=hR.alloc B3 (dst:=o.dst) (x := .own d) (v := .slice (some ⟨w.heap.size,0,none⟩) 0 c.toNat) (r:=r) (vs:=cells) (ty:=e) 0 c.toNat
  (fun β' hb _=>by have:=B4.own (F:=F) (w:=w.alloc (.cells cells e)) hb;simpa using this)
  (fun β' hb hg hk=>by
   cases r with
   | vec ty sz d0 enc l =>
    obtain⟨r1,r2,r3⟩:=hr;subst r1;subst r2;have:l=[]:=List.eq_nil_of_length_eq_zero r3;subst this;exact⟨_,hb,rfl,rfl,.inr ⟨w.heap.size,cells,rfl,O4 w _,zB4 _,by simp only[maxLen];omega,by simp[cells],fun p q hp=>absurd hp (zB3 p)⟩⟩
   | nest ty sz j0 M8 d0 enc ys hoo l =>
    obtain⟨r1,r2,r3,r4⟩:=hr;subst r1;subst r2;subst r3;have:l=[]:=List.eq_nil_of_length_eq_zero r4;subst this;exact⟨_,hb,rfl,.inr ⟨w.heap.size,cells,rfl,O4 w _,zB4 _,by simp only[maxLen];omega,by simp[cells],fun p q hp=>absurd hp (zB3 p),fun p=>by simp[ko,ij,iw],fun p q c hp=>(by cases hp),fun p c hp=>(by cases hp)⟩⟩
   | _=>exact hr.elim) (fun _ _ _ _ h=>by subst h;exact hr.elim)
 exact K5 M4 L9 ⟨_,_,hK,β',F,g2⟩
theorem Cr{ss:List Nat}{f:Nat->AV}{x:AV}(h:ss.map f=ss.map fun _=>x):∀ s ∈ ss,f s=x:=by
 intro s hs;exact List.map_inj_left.1 h s hs
theorem Na{ff:St->(St->Prop)->Prop}(Wu:∀ S K,ff S K=K S)(hR:Rel B w0 F0 S β F a w){o:Oper}(B3:X1 o.op=true->∀ d,o.dst=some d->β d=none){K:St->Out->Prop}{W:St->Prop}{E G:Prop}{Q:Exit->Act->World->Prop}
  (hG:(∀ c,o.op ≠ .defer c)->o.wp P a w (R6 B w0 F0 o.dst K) Q->G) (hE:E->G) (hW:(∃ c f,o.op = .call c/\c.callee = .value f)->∀ S' β',Rel B w0 F0 S' β' F a w->W S'->G) (h:Vg ff P o S K W E):G:=by
 unfold Vg at h;split at h
 ·rename_i t x y ho;have dc:∀ c,o.op ≠ .defer c:=fun c e=>by rw[ho]at e;cases e
  split at h
  ·rename_i id sz j off hg;split at h
   ·rename_i hr;split at h
    ·rename_i i cs hi uq;split at h
     ·rename_i hc;simp only[zA2]at hc;obtain⟨c1,c2,c3,c4,c5⟩:=hc;have c1:=zA8 c1;have c2:=zA8 c2;have c3:=zA8 c3;have c4:=Nat.le_of_ble_eq_true c4;have c5:=zB5 (Nat.lt_succ_self _) (Nat.le_of_ble_eq_true c5);subst c2;split at h
      ·rename_i wj;have wj:=zA8 wj;subst wj;split at h
       ·split at h
        ·rename_i hk;obtain⟨zs,z,⟨q1,q2,q3,q4,q5⟩,hK⟩:=h;rw[Wu]at hK;exact hG dc (ze hR ho hg hr hi uq c1 c3 c5 hk q1 q2 q3 q4 q5 (by assumption) hK)
        ·exact h.elim
       ·exact h.elim
      ·split at h
       ·rename_i wj Cp;simp only[zA2,zA9]at Cp;obtain⟨z,⟨q1,q2,q3⟩,hK⟩:=h;refine hG dc (Co hR ho hg hr hi uq c1 c3 c4 c5 ?_ Cp.2 q1 q2 q3 hK);rcases Cp.1 with h1|h1
        ·have:=Nat.le_of_ble_eq_true h1;omega
        ·have h2:=zB5 (Nat.lt_succ_self _) (Nat.le_of_ble_eq_true h1);omega
       ·exact h.elim
     ·exact h.elim
    ·exact h.elim
   ·exact hE h
  ·rename_i id i k hg;split at h
   ·rename_i hr;split at h
    ·rename_i inf n hi hy;split at h
     ·rename_i H5;obtain⟨z,⟨q1,q2⟩,hK⟩:=h;exact hG dc (yZ hR ho hg hr hi (zA8 H5) hy q1 q2 hK)
     ·exact h.elim
    ·exact h.elim
   ·exact hE h
  ·exact hE h
 ·rename_i t k cap ho;have dc:∀ c,o.op ≠ .defer c:=fun c e=>by rw[ho]at e;cases e
  split at h
  ·exact hE h
  ·split at h
   ·rename_i d e k' c hd hu hy;split at h
    ·rename_i i z hi hz;split at h
     ·rename_i tj;obtain⟨r,⟨q1,q2,q3,q4⟩,hK⟩:=h;exact hG dc (Gc hR ho hd (B3 (by rw[ho];rfl) d hd) hu hy hi hz (zA8 tj) q1 q2 q3 q4 hK)
     ·exact h.elim
    ·exact h.elim
   ·exact h.elim
 ·rename_i c ho;have dc:∀ c,o.op ≠ .defer c:=fun c e=>by rw[ho]at e;cases e
  split at h
  ·rename_i f hb;split at h
   ·rcases h with h|⟨id,g,e,ss,hk,h⟩
    ·exact hE h
    ·rw[Wu]at h;simp only[zA2]at hk;obtain⟨hk,A2⟩:=hk;have A2:e<S.h.length:=Nat.le_of_ble_eq_true A2;obtain⟨β1,h1,h2,jK⟩:=hR.kill e (hR.topn e hk);split at h
     ·rename_i FV;split at h
      ·rename_i hr;obtain⟨⟨q1,q2⟩,hw⟩:=h;rw[Wu]at hw;obtain⟨β2,lI⟩:=jK.explode hr FV h1 (by simpa[St.kill]using A2) q1 (Cr q2);exact hW ⟨_,_,ho,hb⟩ _ β2 lI hw
      ·exact h.elim
     ·exact h.elim
   ·exact hE h
  ·exact hE h
 ·exact hE h
end
/- Regions in any order: an operation leans on what it looks at. A helper text: it speaks of no program. -/
section
variable {P:Program}{B:Nat->Prop}{w0:World}{F0:Env P}{S:St}{β:Nat->Option Hd}{F:Nat->Prop}{a:Act}{w:World}{ops:Array Oper}
def dQ(P:Program)(o:Oper):Bool :=
 match o.op with
 | .call c=>match c.callee with
  | .value _=>match P.underlying o.type with
   | some (.slice _)=>true
   | some (.tuple _)=>true
   | _=>false
  | _=>false
 | _=>false
def cK(P:Program)(o:Oper):Bool:=X1 o.op || dQ P o
def Jh:Row->Bool
 | .vec _ _ _ _ _=>true
 | .nest _ _ _ _ _ _ _ _ _=>true
 | _=>false
def Ji(P:Program)(dst:Option Nat)(op:Op)(g:Operand->AV)(K:Out->List Nat->Prop):Prop :=
 match op with
 | .call c=>match c.callee with
  | .value f=>match g f with
   | .fn (.func h) first A6=>match dst with
    | some d=>∃ row:Row,(PW P h (first++c.args.toList.map g++A6) [] (.own 0) [row]/\F9 (first++c.args.toList.map g++A6)=true/\Jh row=true)/\K ⟨.own d,[(d,row)]⟩ []
    | none=>False
   | _=>False
  | _=>False
 | _=>False
def di:List Nat->Bool
 | []=>true
 | a :: l=>match ig a l with
  | true=>false
  | false=>di l
def Row.live:Row->Bool
 | .none=>false
 | _=>true
def wB(ids news:List Nat)(N4:List AV)(ins n7:List Row)(res:AV):Bool :=
 di (ids++news) && Nat.beq ids.length ins.length && Nat.beq n7.length (ids++news).length && Z0 ids.length N4 && ins.all (fun r=>E4 ids.length r && r.live) && res.under (ids++news).length && n7.all (E4 (ids++news).length)
def a4E:List AV->Bool
 | []=>false
 | a :: l=>match a with
  | .own _=>true
  | _=>a4E l
def Qq(b:Bool):List AV->Bool
 | []=>false
 | a :: l=>match a with
  | .ptr _ _ _ _=>true
  | .own _=>match b with
   | true=>true
   | false=>Qq b l
  | .agg m=>match b with
   | true=>match a4E m with
    | true=>true
    | false=>Qq b l
   | false=>Qq b l
  | _=>Qq b l
def Wv(P:Program)(t:TypeId):Bool :=
 match P.underlying t with
 | some (.slice _)=>true
 | some (.struct _)=>true
 | some (.tuple _)=>true
 | _=>false
def Jj(P:Program)(o:Oper)(g:Operand->AV):Bool :=
 match o.op with
 | .call c=>match c.callee with
  | .value f=>match g f with
   | .fn (.func _) first A6=>Qq (Wv P o.type) (first++c.args.toList.map g++A6)
   | _=>false
  | _=>false
 | _=>false
def kD(nw al:Bool)(dst:Option Nat):List Nat :=
 match nw with
 | true=>match al with
  | true=>match dst with
   | some d=>[d]
   | none=>[]
  | false=>[]
 | false=>[]
def Jk(P:Program)(al:Bool)(dst:Option Nat)(op:Op)(g:Operand->AV)(r:Nat->Row)(K:Out->List Nat->Prop):Prop :=
 match op with
 | .call c=>match c.callee with
  | .value f=>match g f with
   | .fn (.func h) first A6=>∃ (nw:Bool) (ids:List Nat) (N4:List AV) (ins n7:List Row) (res:AV),
     (PW P h N4 ins res n7/\first++c.args.toList.map g++A6=aX ids N4/\ids.map r=ins.map (C1 ids)/\wB ids (kD nw al dst) N4 ins n7 res=true) /\
     K ⟨res.ren (ids++kD nw al dst),(ids++kD nw al dst).zip (n7.map (C1 (ids++kD nw al dst)))⟩ ids
   | _=>False
  | _=>False
 | _=>False
def Gd(P:Program)(o:Oper)(g:Operand->AV)(r:Nat->Row)(K:Out->List Nat->Prop):Prop :=
 match Jj P o g with
 | true=>fk P o.dst o.op g r K∨Jk P (dQ P o) o.dst o.op g r K
 | false=>match dQ P o with
  | true=>fk P o.dst o.op g r K∨Ji P o.dst o.op g K
  | false=>fk P o.dst o.op g r K
theorem fw{o:Oper}{g g':Operand->AV}(hg:∀ x ∈ E0 o.op,g' x=g x):Jj P o g'=Jj P o g:=by
 unfold Jj;split
 ·rename_i c lp;split
  ·rename_i f hc;have ef:g' f=g f:=hg f (by simp[E0,Op.operands,Call.operands,lp,hc]);have em:c.args.toList.map g'=c.args.toList.map g:=List.map_congr_left fun x hx=>hg x (by rw[lp];simp only[E0,Op.operands,Call.operands,Array.toList_append];exact List.mem_append_right _ hx)
   rw[ef,em]
  ·rfl
 ·rfl
theorem Ge{o:Oper}{g:Operand->AV}{r:Nat->Row}{K:Out->List Nat->Prop}(h:Gd P o g r K) :
  ∃ out rd,K out rd/\∀ g' r',(∀ x ∈ E0 o.op,g' x=g x)->(∀ i ∈ rd,r' i=r i)->Gd P o g' r' (fun o d=>o=out/\d=rd):=by
 unfold Gd at h;split at h
 ·rename_i hp;rcases h with h|h
  ·obtain⟨out,rd,h1,h2⟩:=nd h;exact⟨out,rd,h1,fun g' r' hg hr=>by unfold Gd;rw[fw hg,hp];exact .inl (h2 g' r' hg hr)⟩
  ·unfold Jk at h;split at h
   ·rename_i c lp;split at h
    ·rename_i f hc;split at h
     ·rename_i fX first A6 MQ
      obtain⟨nw,ids,N4,ins,n7,res,⟨h1,h2,h3,h4⟩,h5⟩:=h;refine⟨_,_,h5,fun g' r' hg hr=>?_⟩;unfold Gd;rw[fw hg,hp];refine .inr ?_;have ef:g' f=g f:=hg f (by simp[E0,Op.operands,Call.operands,lp,hc]);have em:c.args.toList.map g'=c.args.toList.map g:=List.map_congr_left fun x hx=>hg x (by rw[lp];simp only[E0,Op.operands,Call.operands,Array.toList_append];exact List.mem_append_right _ hx)
      have er:ids.map r'=ids.map r:=List.map_congr_left fun i hi=>hr i hi
      simp only[Jk,lp,hc,ef,MQ,em];exact⟨nw,ids,N4,ins,n7,res,⟨h1,h2,er.trans h3,h4⟩,rfl,rfl⟩
     ·exact h.elim
    ·exact h.elim
   ·exact h.elim
 ·rename_i hp;split at h
  ·rename_i hn;rcases h with h|h
   ·obtain⟨out,rd,h1,h2⟩:=nd h;exact⟨out,rd,h1,fun g' r' hg hr=>by unfold Gd;rw[fw hg,hp,hn];exact .inl (h2 g' r' hg hr)⟩
   ·unfold Ji at h;split at h
    ·rename_i c lp;split at h
     ·rename_i f hc;split at h
      ·rename_i fX first A6 MQ
       split at h
       ·rename_i d hd;obtain⟨row,h1,h2⟩:=h;refine⟨_,_,h2,fun g' r' hg hr=>?_⟩;unfold Gd;rw[fw hg,hp,hn];refine .inr ?_;have ef:g' f=g f:=hg f (by simp[E0,Op.operands,Call.operands,lp,hc]);have em:c.args.toList.map g'=c.args.toList.map g:=List.map_congr_left fun x hx=>hg x (by rw[lp];simp only[E0,Op.operands,Call.operands,Array.toList_append];exact List.mem_append_right _ hx)
        simp only[Ji,lp,hc,ef,MQ,hd,em];exact⟨row,h1,rfl,trivial⟩
       ·exact h.elim
      ·exact h.elim
     ·exact h.elim
    ·exact h.elim
  ·rename_i hn;obtain⟨out,rd,h1,h2⟩:=nd h;exact⟨out,rd,h1,fun g' r' hg hr=>by unfold Gd;rw[fw hg,hp,hn];exact h2 g' r' hg hr⟩
def Yl(P:Program)(o:Oper)(S:St)(out:Out)(rd:List Nat):Prop :=
 ∃ v0,yS v0 out.v/\∀ S':St,(∀ x ∈ E0 o.op,S'.get x=S.get x)->(∀ i ∈ rd,S'.row i=S.row i)->Gd P o S'.get S'.row (fun o' d=>o'=⟨v0,out.rows⟩/\d=rd)
def TQ(fp:Nat->List Nat×List Nat)(i:Nat)(out:Out)(rd:List Nat):Prop:=(∀ x ∈ rd,x ∈ (fp i).1)/\∀ x ∈ out.rows.map (·.1),x ∈ (fp i).2
def aOp(P:Program)(ops:Array Oper)(fp:Nat->List Nat×List Nat)(i:Nat)(K:St->Prop)(S:St):Prop :=
 match ops[i]? with
 | none=>K S
 | some o=>(gw ops S o=some true/\∃ out rd,Yl P o S out rd/\TQ fp i out rd/\K (S.put o.dst out))∨(gw ops S o=some false/\K (S.put o.dst ⟨.tup [],[]⟩))
def Gf(P:Program)(ops:Array Oper)(fp:Nat->List Nat×List Nat)(Q:St->Prop):Nat->Array Bool->St->Prop
 | 0,E5,S=>Region.ready .any ops E5=[]/\Q S
 | fuel+1,E5,S=>(Region.ready .any ops E5=[]->Q S)/\∀ i ∈ Region.ready .any ops E5,aOp P ops fp i (Gf P ops fp Q fuel (E5.setIfInBounds i true)) S
def TR(P:Program)(ops:Array Oper)(E5:Array Bool)(β:Nat->Option Hd):Prop:=∀ i o d,ops[i]? = some o->E5.getD i true=false->cK P o=true->o.dst=some d->β d=none
theorem Yl.put{o:Oper}{out:Out}{rd:List Nat}(hy:Yl P o S out rd){dst:Option Nat}{p:Out}(h1:∀ d,dst=some d->d ∉ o.looksAt ops)(h2:∀ i ∈ rd,i ∉ p.rows.map (·.1)):Yl P o (S.put dst p) out rd:=by
 obtain⟨v0,hf,hy⟩:=hy;refine⟨v0,hf,?_⟩;intro S' hx hr;refine hy S' (fun x yG => ?_) (fun i hi=>?_)
 ·rw[hx x yG,Ei];intro d hd e;subst e;refine h1 d hd ?_;simp only[Oper.looksAt,List.mem_append,List.mem_filterMap];exact .inl ⟨_,yG,rfl⟩
 ·rw[hr i hi,Ej _ _ _ _ (h2 i hi)]
theorem Yl.unput{o:Oper}{out:Out}{rd:List Nat}{dst:Option Nat}{p:Out}(hy:Yl P o (S.put dst p) out rd)(h1:∀ d,dst=some d->d ∉ o.looksAt ops)(h2:∀ i ∈ rd,i ∉ p.rows.map (·.1)):Yl P o S out rd:=by
 obtain⟨v0,hf,hy⟩:=hy;refine⟨v0,hf,?_⟩;intro S' hx hr;refine hy S' (fun x yG => ?_) (fun i hi=>?_)
 ·rw[hx x yG,Ei];intro d hd e;subst e;refine h1 d hd ?_;simp only[Oper.looksAt,List.mem_append,List.mem_filterMap];exact .inl ⟨_,yG,rfl⟩
 ·rw[hr i hi,Ej _ _ _ _ (h2 i hi)]
theorem wC{o:Oper}{dst:Option Nat}{p:Out}(h1:∀ d,dst=some d->d ∉ o.looksAt ops):gw ops (S.put dst p) o=gw ops S o:=by
 unfold gw;cases hg:o.guard with
 | none=>rfl
 | some q =>
  obtain⟨j,want⟩:=q;simp only;cases hd:(ops[j]?).bind (·.dst)with
  | none=>rfl
  | some t =>
   simp only;have:(S.put dst p).t.getD t .any=S.t.getD t .any:=by
    simp only[St.put,Z8];rw[if_neg];rintro⟨h2,_⟩;refine h1 t h2 ?_;simp[Oper.looksAt,hg,hd]
   rw[this]
inductive ng (P:Program) (ops:Array Oper) (fp:Nat->List Nat×List Nat) (i:Nat) (o:Oper) (S:St) (out:Out):Prop
 | run (rd:List Nat) (h1:gw ops S o=some true) (h2:Yl P o S out rd) (h3:TQ fp i out rd)
 | skip (h1:gw ops S o=some false) (h2:out=⟨.tup [],[]⟩)
theorem ng.aOp{fp:Nat->List Nat×List Nat}{i:Nat}{o:Oper}{out:Out}(hi:ops[i]? = some o)(hd:ng P ops fp i o S out){K:St->Prop}(h:K (S.put o.dst out)):aOp P ops fp i K S:=by
 unfold Ev.aOp;simp only[hi];cases hd with
 | run rd h1 h2 h3=>exact .inl ⟨h1,out,rd,h2,h3,h⟩
 | skip h1 h2=>subst h2;exact .inr ⟨h1,h⟩
theorem zf{fp:Nat->List Nat×List Nat}{i:Nat}{o:Oper}(hi:ops[i]? = some o){K:St->Prop}(h:aOp P ops fp i K S):∃ out,ng P ops fp i o S out/\K (S.put o.dst out):=by
 unfold aOp at h;simp only[hi]at h;rcases h with ⟨h1,out,rd,h2,h3,h4⟩|⟨h1,h2⟩
 ·exact⟨out,.run rd h1 h2 h3,h4⟩
 ·exact⟨_,.skip h1 rfl,h2⟩
theorem ng.wr{fp:Nat->List Nat×List Nat}{i:Nat}{o:Oper}{out:Out}(h:ng P ops fp i o S out):∀ x ∈ out.rows.map (·.1),x ∈ (fp i).2:=by
 cases h with
 | run rd h1 h2 h3=>exact h3.2
 | skip h1 h2=>subst h2;simp
def Px(ops:Array Oper)(fp:Nat->List Nat×List Nat)(i j:Nat)(oi oj:Oper):Prop :=
 oi.apart ops oj=true/\(∀ x ∈ (fp i).2,x ∉ (fp j).1/\x ∉ (fp j).2)/\∀ x ∈ (fp i).1,x ∉ (fp j).2
theorem ng.put{fp:Nat->List Nat×List Nat}{i:Nat}{o:Oper}{out:Out}(h:ng P ops fp i o S out){dst:Option Nat}{p:Out}(h1:∀ d,dst=some d->d ∉ o.looksAt ops)(h2:∀ x ∈ p.rows.map (·.1),x ∉ (fp i).1):ng P ops fp i o (S.put dst p) out:=by
 cases h with
 | run rd g1 g2 g3=>exact .run rd ((wC h1).trans g1) (g2.put h1 fun x hx hp=>h2 x hp (g3.1 x hx)) g3
 | skip g1 g2=>exact .skip ((wC h1).trans g1) g2
theorem ng.unput{fp:Nat->List Nat×List Nat}{i:Nat}{o:Oper}{out:Out}{dst:Option Nat}{p:Out}(h:ng P ops fp i o (S.put dst p) out)(h1:∀ d,dst=some d->d ∉ o.looksAt ops)(h2:∀ x ∈ p.rows.map (·.1),x ∉ (fp i).1):ng P ops fp i o S out:=by
 cases h with
 | run rd g1 g2 g3=>exact .run rd ((wC h1).symm.trans g1) (g2.unput h1 fun x hx hp=>h2 x hp (g3.1 x hx)) g3
 | skip g1 g2=>exact .skip ((wC h1).symm.trans g1) g2
def TS(ops:Array Oper)(oj:Oper)(i:Nat):Prop:=∃ e ∈ oj.after,Region.binds .any e=true/\∃ om,ops[e.on]? = some om/\∃ e' ∈ om.after,Region.binds .any e'=true/\e'.on=i
theorem Cs{fp:Nat->List Nat×List Nat}{Q:St->Prop}{i:Nat}{oi:Oper}{out:Out}(hi:ops[i]? = some oi) :
  ∀ (fuel:Nat) (E5:Array Bool) (S:St),(∀ j oj,ops[j]? = some oj->j≠i->E5.getD j true=false->(∀ e ∈ oj.after,Region.binds .any e=true->e.on≠i)->¬TS ops oj i->Px ops fp i j oi oj) ->
   (∀ m om,ops[m]? = some om->E5.getD m false=true->∀ e ∈ om.after,Region.binds .any e=true->e.on≠i) ->
   i ∈ Region.ready .any ops E5->ng P ops fp i oi S out->Gf P ops fp Q fuel (E5.setIfInBounds i true) (S.put oi.dst out)->Gf P ops fp Q (fuel+1) E5 S:=by
 intro fuel
 induction fuel with
 | zero =>
  intro E5 S _ _ hr hy H;refine⟨fun h=>(by rw[h]at hr;cases hr),fun j hj=>?_⟩;by_cases Py:j=i
  ·subst Py;exact hy.aOp hi H
  ·have:=ready_mono hj Py;rw[H.1]at this;cases this
 | succ fuel ih =>
  intro E5 S B3 hG hr hy H;refine⟨fun h=>(by rw[h]at hr;cases hr),fun j hj=>?_⟩;by_cases Py:j=i
  ·subst Py;exact hy.aOp hi H
  ·have h1:=H.2 j (ready_mono hj Py);obtain⟨TT,oj,SI,qt⟩:=mem_ready.1 hj;have TU:∀ e ∈ oj.after,Region.binds .any e=true->e.on≠i:=fun e he hb heq=>by
    have h1:=qt e he hb;have h0:=(mem_ready.1 hr).1;rw[heq]at h1;rcases Nat.lt_or_ge i E5.size with h' | h'
    ·simp[h']at h0 h1;rw[h0]at h1;cases h1
    ·simp[Array.getElem?_eq_none h']at h1
   have Ww:¬TS ops oj i:=fun⟨e,he,hb,om,Gg,e',Wx,pU,hx⟩=>hG e.on om Gg (qt e he hb) e' Wx pU hx
   obtain⟨ZB,hw,TV⟩:=B3 j oj SI Py TT TU Ww;obtain⟨a1,a2,a3⟩:=Oper.apart_spec ZB;obtain⟨Wy,TW,hK⟩:=zf SI h1;have Wz:=TW.unput a1 fun x hx=>(hw x (hy.wr x hx)).1
   refine Wz.aOp SI ?_;have Qr:∀ k ok,ops[k]? = some ok->k≠i->(E5.setIfInBounds j true).getD k true=false ->
     (∀ e ∈ ok.after,Region.binds .any e=true->e.on≠i)->¬TS ops ok i->Px ops fp i k oi ok:=fun k ok hk yu Pz uz Ga=>by
    refine B3 k ok hk yu ?_ uz Ga;by_cases Qs:j=k
    ·subst Qs;exact TT
    ·rw[getD_set_ne true Qs]at Pz;exact Pz
   have ZC:∀ m om,ops[m]? = some om->(E5.setIfInBounds j true).getD m false=true->∀ e ∈ om.after,Region.binds .any e=true->e.on≠i:=fun m om Gg hl e he hb heq=>by
    by_cases Yo:j=m
    ·subst Yo;rw[SI]at Gg;cases Gg;exact TU e he hb heq
    ·rw[getD_set_ne false Yo]at hl;exact hG m om Gg hl e he hb heq
   refine ih (E5.setIfInBounds j true) _ Qr ZC (ready_mono hr (Ne.symm Py)) (hy.put a3 fun x hx yG=>TV x yG (TW.wr x hx)) ?_;rw[Array.setIfInBounds_comm _ _ Py,<- Jc S out Wy a2 fun x hx yG=>(hw x (hy.wr x hx)).2 (TW.wr x yG)];exact hK
def zg(ops:List Oper)(cI:List (List Nat×List Nat)):Bool :=
 (List.range ops.length).all fun j=>(List.range ops.length).all fun i=>match Nat.ble j i with
  | true=>true
  | false =>
   match ops[j]? with
   | none=>true
   | some oj=>(oj.after.any fun e=>Region.binds .any e && e.on == i) ||
    ((((cI.getD i ([],[])).2.all fun x => !(cI.getD j ([],[])).1.contains x && !(cI.getD j ([],[])).2.contains x) && (cI.getD i ([],[])).1.all fun x => !(cI.getD j ([],[])).2.contains x) ||
     oj.after.any fun e=>Region.binds .any e && match ops[e.on]? with
      | some om=>om.after.any fun e'=>Region.binds .any e' && e'.on == i
      | none=>false)
inductive oP (P:Program) (ops:Array Oper):Nat->List Oper->St->List (List Nat×List Nat)->St->Prop
 | nil (k S):oP P ops k [] S [] S
 | run {k o l S Sf out rd cI} (h1:gw ops S o=some true) (h2:Yl P o S out rd) (h3:oP P ops (k+1) l (S.put o.dst out) cI Sf):oP P ops k (o :: l) S ((rd,out.rows.map (·.1)) :: cI) Sf
 | skip {k o l S Sf cI} (h1:gw ops S o=some false) (h3:oP P ops (k+1) l (S.put o.dst ⟨.tup [],[]⟩) cI Sf):oP P ops k (o :: l) S (([],[]) :: cI) Sf
theorem zh{fp:Nat->List Nat×List Nat}{Q:St->Prop}(Yp:∀ i j oi oj,ops[i]? = some oi->ops[j]? = some oj->i<j->(∀ e ∈ oj.after,Region.binds .any e=true->e.on≠i)->¬TS ops oj i->(∀ x ∈ (fp i).2,x ∉ (fp j).1/\x ∉ (fp j).2)/\∀ x ∈ (fp i).1,x ∉ (fp j).2) :
  ∀ (l:List Oper) (k:Nat) (E5:Array Bool) (S:St) (cI:List (List Nat×List Nat)) (Sf:St),(∀ j,l[j]? = ops[k+j]?)->(∀ j,j<k->E5.getD j true=true)->(∀ j,k<=j->E5.getD j false=false)->(∀ m om,m<k->ops[m]? = some om->∀ e ∈ om.after,Region.binds .any e=true->e.on<m)->(∀ j,j<l.length->cI.getD j ([],[])=fp (k+j)) ->
   Region.lexFrom .any ops l.length k E5=true->oP P ops k l S cI Sf->Q Sf->Gf P ops fp Q l.length E5 S
 | [],_,_,_,_,_,_,_,_,_,_,hB,h,hQ=>by
  cases h
  exact⟨by simpa[Region.lexFrom]using hB,hQ⟩
 | o :: l,k,E5,S,cI,Sf,hl,Yq,tB,Vb,hf,hB,h,hQ=>by
  have h0:ops[k]? = some o:=by simpa using (hl 0).symm
  simp only[zB2,Region.lexFrom,zA2]at hB;obtain⟨⟨hr,El⟩,ZD⟩:=hB;have wx:∀ e ∈ o.after,Region.binds .any e=true->e.on<k:=fun e he hb=>by
   obtain⟨_,o',M4,qt⟩:=mem_ready.1 (by simpa using hr:k ∈ Region.ready .any ops E5);rw[h0]at M4; cases M4
   rcases Nat.lt_or_ge e.on k with h|h
   ·exact h
   ·have h1:=qt e he hb;rw[tB _ h]at h1;cases h1
  have PA:∀ {out lO},ng P ops fp k o S out->(∀ j,j<l.length->lO.getD j ([],[])=fp (k+1+j))->oP P ops (k+1) l (S.put o.dst out) lO Sf->Gf P ops fp Q (l.length+1) E5 S:=by
   intro out lO hd ZE Qt;refine Cs h0 l.length E5 S (fun j oj hj aW Pz uz Ga=>?_) (fun m om Gg TG e he hb heq=>?_) (by simpa using hr) hd
    (zh Yp l (k+1) _ _ lO Sf (fun j=>by have:=hl (j+1);simpa[Nat.add_assoc,Nat.add_comm 1 j]using this) (fun j hj=>?_) (fun j hj=>by rw[getD_set_ne false (show k≠j by omega)];exact tB j va5)
     (fun m om hm Gg=>by
      rcases Nat.lt_or_ge m k with h|h
      ·exact Vb m om h Gg
      ·have:m=k:=by omega
       subst this;rw[h0]at Gg;cases Gg;exact wx) ZE ZD Qt hQ)
   ·have ZF:k<j:=by
     rcases Nat.lt_or_ge k j with h|h
     ·exact h
     ·have:j<k:=by omega
      rw[Yq j this]at Pz;cases Pz
    obtain⟨q1,q2⟩:=Yp k j o oj h0 hj ZF uz Ga;exact⟨Region.free_spec h0 El j oj hj aW Pz uz,q1,q2⟩
   ·rcases Nat.lt_or_ge m k with h|h
    ·have:=Vb m om h Gg e he hb;omega
    ·rw[tB _ h]at TG;cases TG
   ·by_cases e:j=k
    ·subst e;rcases Nat.lt_or_ge j E5.size with h' | h'
     ·simp[h']
     ·simp[Array.getElem?_eq_none,h']
    ·rw[getD_set_ne true (Ne.symm e)];exact Yq j va5
  cases h with
  | run h1 h2 h3 =>
   rename_i out rd lO;have e0:=hf 0 va9;simp only[List.getD_cons_zero,Nat.add_zero]at e0;exact PA (.run rd h1 h2 ⟨by rw[<- e0];exact fun x hx=>hx,by rw[<- e0];exact fun x hx=>hx⟩) (fun j hj=>by have:=hf (j+1) (by simpa using hj);simpa[Nat.add_assoc,Nat.add_comm 1 j]using this) h3
  | skip h1 h3 =>
   rename_i lO;exact PA (.skip h1 rfl) (fun j hj=>by have:=hf (j+1) (by simpa using hj);simpa[Nat.add_assoc,Nat.add_comm 1 j]using this) h3
end

end Go.Ev
