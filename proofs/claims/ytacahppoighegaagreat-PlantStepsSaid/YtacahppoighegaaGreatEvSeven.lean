/- Helper lemmas. -/
import Derived.Test.YtacahppoighegaaGreatEvFour
set_option linter.unusedVariables false
set_option linter.unusedSimpArgs false
/- Rows whose elements hold slices of their own: what is done with them. A helper text: it speaks of no program. -/
namespace Go.Ev
section
variable {P:Program}{B:Nat->Prop}{w0:World}{F0:Env P}{S:St}{β:Nat->Option Hd}{F:Nat->Prop}{a:Act}{w:World}
def T6(B:Nat->Prop)(w0:World)(F0:Env P)(dst:Option Nat)(K:St->Out->Prop)(a':Act)(w':World):Prop :=
 ∃ S out,K S out/\∃ β F,Rel B w0 F0 (S.put dst out) β F a' w'
theorem T6.still(hR:Rel B w0 F0 S β F a w){dst:Option Nat}{K:St->Out->Prop}{x:AV}{v:Value}(hv:C4 β F w x v)(hK:K S ⟨x,[]⟩):T6 B w0 F0 dst K (a.put dst v) w :=
 ⟨S,_,hK,β,F,hR.still hv⟩
theorem Rel.trade(hR:Rel B w0 F0 S β F a w){S':St}{β':Nat->Option Hd}(hl:S'.t.length=S.t.length)(hn:S'.n=S.n)
  (TV:∀ i,i<S.t.length->C4 β' F w (S'.t.getD i .any) (a.tmps.getD i undef)) (jH:∀ j,y8 β' F w j (S'.row j))
  (js:∀ i j b,S'.row i ≠ .none->S'.row j ≠ .none->x7 β' i b->x7 β' j b->i=j) (PZ:∀ i b,S'.row i ≠ .none->x7 β' i b->∃ k,S.row k ≠ .none/\x7 β k b)
  (hB:∀ i b,x7 β' i b->∃ k,x7 β k b) (TW:∀ j hd,F0.β j=some hd->β' j=some hd) (PG:∀ id l xs k e,S'.row id = .ctr l xs k e->S.row id = .ctr l xs k e):Rel B w0 F0 S' β' F a w where
 len:=by rw[hl];exact hR.len
 slots:=fun i hi=>TV i (hl ▸ hi)
 marks:=hR.marks
 rows:=jH
 inj:=js
 bF:=fun i b hi hb=>by obtain⟨k,h1,h2⟩:=PZ i b hi hb;exact hR.bF k b h1 h2
 bB:=fun i b hb=>by obtain⟨k,h⟩:=hB i b hb;exact hR.bB k b h
 FB:=hR.FB
 below:=hR.below
 BW:=hR.BW
 top:=TW
 topn:=fun j hj=>hR.topn j (by simpa[A3,hl,hn]using hj)
 nn:=hn.trans hR.nn
 inc:=hR.inc
 keep:=hR.keep
 sol:=hR.sol
 yl:=hR.ylOf (fun i=>i) PG (fun _ _ _ _ h=>h) PZ (fun _ hb => .inl hb)
mutual
def AV.namesM(id:Nat):AV->Bool
 | .mem j _=>Nat.beq j id
 | .mptr j _ _=>Nat.beq j id
 | .agg l=>fD id l
 | .tup l=>fD id l
 | .fn _ a b=>fD id a || fD id b
 | _=>false
def fD(id:Nat):List AV->Bool
 | []=>false
 | a :: l=>a.namesM id || fD id l
end
theorem bd{id:Nat}:∀ {l:List AV},fD id l=false->∀ i,i<l.length->(l.getD i .any).namesM id=false
 | a :: l,h,0,_=>by simp[fD]at h;exact h.1
 | a :: l,h,i+1,hi=>by
  simp[fD]at h;have:=bd h.2 i (by simpa using hi);simpa using this
def L8(id:Nat)(x:AV):AV :=
 match x.namesM id with
 | true => .any
 | false=>x
theorem cL(id:Nat):L8 id .any = .any:=rfl
theorem lO(id:Nat)(x:AV):L8 id (L8 id x)=L8 id x:=by
 unfold L8;cases h:x.namesM id with
 | true=>rfl
 | false=>simp[h]
def E9(id:Nat):Row->Row
 | .none => .none
 | .cells ty cs => .cells ty (cs.map (L8 id))
 | .lit ty sz E5 => .lit ty sz (E5.map fun cs=>cs.map (L8 id))
 | .vec ty sz e enc l => .vec ty sz e enc l
 | .ctr l xs k e => .ctr l xs k e
 | .nest ty sz j0 G7 e enc ys ho l => .nest ty sz j0 G7 e enc ys ho l
 | .opq o => .opq o
theorem jQ(id:Nat)(r:Row):E9 id (E9 id r)=E9 id r:=by
 have h:L8 id ∘ L8 id=L8 id:=funext (lO id);cases r<;>simp only[E9,List.map_map,h]
 congr 1
 refine List.map_congr_left fun x _=>?_
 simp only[Function.comp,List.map_map,h]
theorem fY{id:Nat}{r:Row}:E9 id r = .none↔r = .none:=by cases r<;>simp[E9]
def St.noMem(S:St)(id:Nat):St:=⟨S.t.map (L8 id),S.h.map (E9 id),S.n⟩
theorem bL(S:St)(id j:Nat):(S.noMem id).row j=E9 id (S.row j):=by
 simp only[St.noMem,St.row,List.getD,List.getElem?_map];cases S.h[j]? <;> rfl
theorem BH(S:St)(id:Nat):(S.noMem id).noMem id=S.noMem id:=by
 simp only[St.noMem,List.map_map]
 congr 1
 ·exact List.map_congr_left fun x _=>lO id x
 ·exact List.map_congr_left fun x _=>jQ id x
theorem C4.turnM{β β':Nat->Option Hd}{id:Nat}{hd hd':Hd}(h0:β id=some hd)(h1:β' id=some hd')(eb:hd'.b=hd.b)(el:hd'.len=hd.len)(ec:hd'.cap=hd.cap)(hβ:∀ j,j≠id->β j≠none->β' j=β j)
  {x:AV} {v:Value} (h:C4 β F w x v) (hx:x.namesM id=false):C4 β' F w x v:=by
 induction h with
 | imm h=>exact .imm h
 | @ptr oZ sz i off b mU hb hh =>
  by_cases e:oZ=id
  ·subst e;rw[h0]at hb;cases hb;exact .ptr h1 (eb.trans hh)
  ·exact .ptr ((hβ _ e (by rw[hb];simp)).trans hb) hh
 | @own oZ mU hb =>
  by_cases e:oZ=id
  ·subst e;rw[h0]at hb;cases hb
   have:=C4.own (F:=F) (w:=w) h1;rw[eb,el,ec]at this;exact this
  ·exact .own ((hβ _ e (by rw[hb];simp)).trans hb)
 | @mem oZ i mU hb hi =>
  have e:oZ≠id:=fun e=>by subst e;simp[AV.namesM]at hx
  exact .mem ((hβ _ e (by rw[hb];simp)).trans hb) hi
 | @mptr oZ i k b mU hb hh hi hk =>
  have e:oZ≠id:=fun e=>by subst e;simp[AV.namesM]at hx
  exact .mptr ((hβ _ e (by rw[hb];simp)).trans hb) hh hi hk
 | agg hl _ ih=>exact .agg hl fun i hi=>ih i hi (bd (by simpa[AV.namesM]using hx) i hi)
 | tup hl _ ih=>exact .tup hl fun i hi=>ih i hi (bd (by simpa[AV.namesM]using hx) i hi)
 | fn hl _ hm _ ih ik =>
  simp[AV.namesM]at hx;exact .fn hl (fun i hi=>ih i hi (bd hx.1 i hi)) hm (fun i hi=>ik i hi (bd hx.2 i hi))
theorem C4.noMem{β β':Nat->Option Hd}{id:Nat}{hd hd':Hd}(h0:β id=some hd)(h1:β' id=some hd')(eb:hd'.b=hd.b)(el:hd'.len=hd.len)(ec:hd'.cap=hd.cap)(hβ:∀ j,j≠id->β j≠none->β' j=β j)
  {x:AV} {v:Value} (h:C4 β F w x v):C4 β' F w (L8 id x) v:=by
 unfold L8;cases hx:x.namesM id with
 | true=>exact .imm (.any _)
 | false=>exact h.turnM h0 h1 eb el ec hβ hx
theorem iI{β β':Nat->Option Hd}{id:Nat}{hd hd':Hd}(h0:β id=some hd)(h1:β' id=some hd')(eb:hd'.b=hd.b)(el:hd'.len=hd.len)(ec:hd'.cap=hd.cap)(hβ:∀ j,j≠id->β j≠none->β' j=β j)
  {j:Nat} (hj:j≠id) {r:Row} (h:y8 β F w j r):y8 β' F w j (E9 id r):=by
 have tr:∀ {mU},β j=some mU->β' j=some mU:=fun e=>(hβ j hj (by rw[e];simp)).trans e
 cases r with
 | none=>trivial
 | ctr l xs k e=>obtain⟨hd,e1,e2⟩:=h;exact⟨hd,tr e1,e2⟩
 | cells ty cs =>
  obtain⟨hd,b,vs,e1,em,e2,e3,e4,e5⟩:=h;exact⟨hd,b,vs,tr e1,em,e2,e3,by simpa using e4,fun i hi=>by rw[u0 _ (cL id)];exact(e5 i (by simpa using hi)).noMem h0 h1 eb el ec hβ⟩
 | lit ty sz E5 =>
  obtain⟨hd,b,vs,e1,em,e2,e3,e4,e5,e6,e7,e8⟩:=h;have hg:∀ i,(E5.map fun cs=>cs.map (L8 id)).getD i []=(E5.getD i []).map (L8 id):=by
   intro i;simp only[List.getD,List.getElem?_map];cases E5[i]? <;> simp
  exact⟨hd,b,vs,tr e1,em,e2,e3,by simpa using e4,by simpa using e5,by simpa using e6,by simpa using e7,fun i k hi hk=>by
   rw[hg,u0 _ (cL id)];exact(e8 i k (by simpa using hi) hk).noMem h0 h1 eb el ec hβ⟩
 | vec ty sz e enc l=>obtain⟨hd,e1,e2⟩:=h;exact⟨hd,tr e1,e2⟩
 | nest ty sz j0 G7 e enc ys ho l=>obtain⟨hd,e1,e2⟩:=h;exact⟨hd,tr e1,e2⟩
 | opq o=>obtain⟨hd,e1,e2⟩:=h;exact⟨hd,tr e1,e2⟩
theorem Rel.held(hR:Rel B w0 F0 S β F a w){id:Nat}{hd hd':Hd}(h0:β id=some hd)(Ia:F0.β id=none)(A5:S.row id ≠ .none)(eb:hd'.b=hd.b)(el:hd'.len=hd.len)(ec:hd'.cap=hd.cap){cons:List Nat}(hc:id ∉ cons)
  {r:Row} (hr:∀ β',β' id=some hd'->(∀ j,j≠id->β' j=β j)->y8 β' F w id r) (rk:∀ l xs k e,r ≠ .ctr l xs k e) (TX:∀ b,Z1 (some hd') b->x7 β id b∨∃ c ∈ cons,S.row c ≠ .none/\x7 β c b) :
  ∃ β',β' id=some hd'/\(∀ j,j≠id->β' j=β j)/\Rel B w0 F0 ⟨(S.noMem id).t,r8 (S.noMem id).h (cons.map (fun i=>(i,.none))++[(id,r)]),S.n⟩ β' F a w:=by
 let β':Nat->Option Hd:=fun j=>if j=id then some hd' else β j
 have h1:β' id=some hd':=by simp[β']
 have h2:∀ j,j≠id->β' j=β j:=fun j hj=>by simp[β',hj]
 have z8:=fQ A5;have A1:∀ j,(r8 (S.noMem id).h (cons.map (fun i=>(i,.none))++[(id,r)])).getD j .none=if id=j then r else if j ∈ cons then .none else E9 id (S.row j):=fun j=>by
  rw[X4];simp only[r8,r7,O8,X5];have e:(S.noMem id).h.length=S.h.length:=by simp[St.noMem]
  have e2:(S.noMem id).h.getD j .none=E9 id (S.row j):=bL S id j;rw[e,e2];by_cases hj:id=j<;>simp[hj]
  subst hj;intro hh;omega
 have live:∀ j,j≠id->(r8 (S.noMem id).h (cons.map (fun i=>(i,.none))++[(id,r)])).getD j .none ≠ .none->j ∉ cons/\S.row j ≠ .none:=fun j hj hl=>by
  rw[A1,if_neg (fun h=>hj h.symm)]at hl;split at hl
  ·exact absurd rfl hl
  ·rename_i Io;exact⟨Io,fun e=>hl (fY.2 e)⟩
 have o1:∀ b,x7 β' id b->x7 β id b∨∃ c ∈ cons,S.row c ≠ .none/\x7 β c b:=fun b hb=>TX b (by rw[x7,h1]at hb;exact hb)
 have o2:∀ j b,j≠id->(x7 β' j b↔x7 β j b):=fun j b hj=>by rw[x7,x7,h2 j hj]
 refine⟨β',h1,h2,hR.trade (by simp[St.noMem]) rfl (fun i hi=>?_) (fun j=>?_) (fun i j b hi hj B3 P6=>?_) (fun i b hi B3=>?_) (fun i b B3=>?_) (fun j mU hj=>?_) (fun j l xs k e h=>?_)⟩
 ·show C4 β' F w ((S.t.map (L8 id)).getD i .any) _
  rw[u0 _ (cL id)];exact(hR.slots i hi).noMem h0 h1 eb el ec fun j hj _=>h2 j hj
 ·show y8 β' F w j ((r8 (S.noMem id).h (cons.map (fun i=>(i,.none))++[(id,r)])).getD j .none)
  rw[A1];split
  ·rename_i e;subst e;exact hr β' h1 h2
  ·split
   ·trivial
   ·rename_i e _;exact iI h0 h1 eb el ec (fun j hj _=>h2 j hj) (Ne.symm e) (hR.rows j)
 ·by_cases e:i=id
  ·by_cases e':j=id
   ·exact e.trans e'.symm
   ·exfalso;subst e;obtain⟨PN,SZ⟩:=live j e' hj;rw[o2 j b e']at P6;rcases o1 b B3 with h|⟨c,Io,S9,iC⟩
    ·exact e' (hR.inj j i b SZ A5 P6 h)
    ·exact PN (hR.inj c j b S9 SZ iC P6 ▸ Io)
  ·obtain⟨PO,Pu⟩:=live i e hi;rw[o2 i b e]at B3;by_cases e':j=id
   ·exfalso;subst e';rcases o1 b P6 with h|⟨c,Io,S9,iC⟩
    ·exact e (hR.inj i j b Pu A5 B3 h)
    ·exact PO (hR.inj c i b S9 Pu iC B3 ▸ Io)
   ·rw[o2 j b e']at P6;exact hR.inj i j b Pu (live j e' hj).2 B3 P6
 ·by_cases e:i=id
  ·subst e;rcases o1 b B3 with h|⟨c,_,S9,iC⟩
   ·exact⟨i,A5,h⟩
   ·exact⟨c,S9,iC⟩
  ·rw[o2 i b e]at B3;exact⟨i,(live i e hi).2,B3⟩
 ·by_cases e:i=id
  ·subst e;rcases o1 b B3 with h|⟨c,_,_,iC⟩
   ·exact⟨i,h⟩
   ·exact⟨c,iC⟩
  ·rw[o2 i b e]at B3;exact⟨i,B3⟩
 ·have:j≠id:=fun e=>by subst e;rw[Ia]at hj;cases hj
  exact(h2 j this).trans (hR.top j mU hj)
 ·replace h:(r8 (S.noMem id).h (cons.map (fun i=>(i,.none))++[(id,r)])).getD j .none = .ctr l xs k e:=h
  rw[A1]at h;split at h
  ·exact absurd h (rk l xs k e)
  ·split at h
   ·cases h
   ·cases hr:S.row j<;>rw[hr]at h<;>simp[E9]at h
    simp[h]
end
/- Rows whose elements hold slices of their own: the operations. A helper text: it speaks of no program. -/
def BI(e:TypeId)(sz:Nat):Row->Prop
 | .vec ty s _ _ l=>ty=e/\s=sz/\l.length=0
 | .nest ty s _ _ _ _ _ ho l=>ty=e/\s=sz/\ho=none/\l.length=0
 | _=>False
def Xn(ho:Option Nat)(j:Nat):Prop :=
 match ho with
 | none=>True
 | some h=>h=j
def LK:List AV->Bool
 | []=>false
 | a :: l=>match a with
  | .mem _ _=>true
  | _=>LK l
def iJ(t:List AV)(x:AV):List Nat->List AV
 | []=>t
 | s :: ss=>iJ (t.set s x) x ss
def St.explode(S:St)(id e:Nat)(r1 r2:Row)(ss:List Nat):St:=⟨iJ (S.noMem id).t (.own e) ss,((S.noMem id).h.set e r1).set id r2,S.n⟩
def Za(ff:St->(St->Prop)->Prop)(P:Program)(o:Oper)(S:St)(K:St->Out->Prop)(W:St->Prop)(E:Prop):Prop :=
 match o.op with
 | .store t x y=>match S.get x with
  | .ptr id sz j off=>match S.row id with
   | .nest ty Ba j0 G7 d enc ys ho l=>match P.info? t,(S.get y).cells? with
    | some i,some cs=>match Nat.beq cs.length i.size && (Nat.beq sz Ba && (Nat.beq (enc (l.getD j d)).length sz && (Nat.ble (off+cs.length) sz && Nat.blt j0 sz)))with
     | true=>match Nat.beq off j0 with
      | true=>match cs,o.dst with
       | [.own e],none=>match A3 S id with
        | true=>∃ (zs:List Int) (y:_),(S.row e = .vec G7 1 0 aR zs/\ys y=zs/\(enc y).set j0 .any=(enc (l.getD j d)).set j0 .any/\j<l.length/\Xn ho j) /\
          ff (S.noMem id) fun S'=>K S' ⟨.any,[(e,.none),(id,.nest ty sz j0 G7 d enc ys none (l.set j y))]⟩
        | false=>False
       | _,_=>False
      | false=>match (Nat.ble (off+cs.length) j0 || Nat.blt j0 off) && G8 cs with
       | true=>∃ y,(enc y=setCells (enc (l.getD j d)) off cs/\ys y=ys (l.getD j d)/\j<l.length)/\K S ⟨.any,[(id,.nest ty sz j0 G7 d enc ys ho (l.set j y))]⟩
       | false=>False
     | false=>False
    | _,_=>False
   | _=>E
  | .mptr id i k=>match S.row id with
   | .nest ty sz j0 G7 d enc ys none l=>match P.info? t,S.get y with
    | some inf,.int .i64 n=>match Nat.beq inf.size 1 with
     | true=>∃ y,(ys y=(ys (l.getD i d)).set k n/\(enc y).set j0 .any=(enc (l.getD i d)).set j0 .any)/\K S ⟨.any,[(id,.nest ty sz j0 G7 d enc ys none (l.set i y))]⟩
     | false=>False
    | _,_=>False
   | _=>E
  | _=>E
 | .makeSlice t (.const (.int k 0)) cap=>match cap with
  | .const _=>E
  | _=>match o.dst,P.underlying t,S.get cap with
   | some d,some (.slice e),.int _ c=>match P.info? e,dc P e with
    | some i,some z=>match Nat.beq z.length i.size with
     | true=>∃ r:Row,(BI e i.size r/\0<=c/\c<=1048576/\i.bytes<=1048576)/\K S ⟨.own d,[(d,r)]⟩
     | false=>False
    | _,_=>False
   | _,_,_=>False
 | .call c=>match c.callee with
  | .value _=>match LK (c.args.toList.map S.get)with
   | true=>E∨∃ (id g e:Nat) (ss:List Nat),(A3 S e && Nat.blt e S.h.length)=true/\ff (S.kill e) fun S'=>match A3 S' id with
    | true=>match S'.row id with
     | .nest ty sz j0 G7 d enc ys none l=>(g<l.length/\ss.map (fun s=>S'.t.getD s .any)=ss.map (fun _ => .mem id g)) /\
       ff (S'.explode id e (.vec G7 1 0 aR (ys (l.getD g d))) (.nest ty sz j0 G7 d enc ys (some g) l) ss) W
     | _=>False
    | false=>False
   | false=>E
  | _=>E
 | _=>E
/- Rows whose elements hold slices of their own: each operation does what its abstract twin says. A helper text: it speaks of no program. -/
section
variable {P:Program}{B:Nat->Prop}{w0:World}{F0:Env P}{S:St}{β:Nat->Option Hd}{F:Nat->Prop}{a:Act}{w:World}
theorem yX{α:Type}{sz j0:Nat}{d:α}{enc:α->List AV}{l:List α}{vs:Array Value}{cap:Nat}{w':World}{j off:Nat}{cs:List AV}{ls:Array Value}(e3:l.length<=cap)(e5:vs.size=cap*sz)(hj:j<l.length)
  (e6:∀ i k,i<l.length->k<sz->k≠j0->y6 F w' ((enc (l.getD i d)).getD k .any) (vs.getD (i*sz+k) undef)) (ma:off+cs.length<=sz) (c1:ls.size=cs.length) (c2:∀ i,i<cs.length->y6 F w' (cs.getD i .any) (ls.getD i undef))
  {y:α} (hy:∀ k,k≠j0->(enc y).getD k .any=(setCells (enc (l.getD j d)) off cs).getD k .any) (hlen:(enc (l.getD j d)).length=sz) :
  ∀ i k,i<(l.set j y).length->k<sz->k≠j0->y6 F w' ((enc ((l.set j y).getD i d)).getD k .any) ((x8 vs (j*sz+off) ls.toList).getD (i*sz+k) undef):=by
 intro p q hp hq mc;have TI:ls.toList.length=cs.length:=by simp[c1]
 have mT:∀ k,k<sz->j*sz+k<vs.size:=fun k hk=>by
  rw[e5];exact z6 (zB5 hj e3) hk
 have bC:j*sz+off+cs.length<=vs.size:=by
  rcases Nat.eq_zero_or_pos (off+cs.length)with h0|h0
  ·have:=mT q hq;rcases Nat.eq_zero_or_pos sz with Ia|Ia
   ·omega
   ·have:=mT 0 Ia;omega
  ·have:=mT (off+cs.length-1) va5;omega
 have ph:p<l.length:=by simpa using hp
 rw[B9 va5,TI];by_cases Ls:p=j
 ·subst Ls;have eg:(l.set p y).getD p d=y:=by simp[List.getD,ph]
  rw[eg,hy q mc,fU va5];by_cases Ib:off<=q/\q<off+cs.length
  ·have c:p*sz+off<=p*sz+q/\p*sz+q<p*sz+off+cs.length:=by omega
   rw[if_pos Ib,if_pos c];have H7:=c2 (q-off) va5;have ee:ls.toList.getD (p*sz+q-(p*sz+off)) undef=ls.getD (q-off) undef:=by
    rw[show p*sz+q-(p*sz+off)=q-off by omega];simp[List.getD,Array.getD_eq_getD_getElem?]
   rw[ee];exact H7
  ·have c:¬ (p*sz+off<=p*sz+q/\p*sz+q<p*sz+off+cs.length):=by omega
   rw[if_neg Ib,if_neg c];exact e6 p q ph hq mc
 ·have eg:(l.set j y).getD p d=l.getD p d:=by simp[List.getD,List.getElem?_set,Ne.symm Ls]
  have c:¬ (j*sz+off<=p*sz+q/\p*sz+q<j*sz+off+cs.length):=by
   rcases Nat.lt_or_gt_of_ne Ls with z8|sJ
   ·have:=z6 z8 hq;omega
   ·have:(j+1)*sz<=p*sz:=Nat.mul_le_mul_right sz sJ;rw[Nat.add_mul]at this;omega
  rw[eg,if_neg c];exact e6 p q ph hq mc
theorem bM{sz j0 n cap j off:Nat}{vs:Array Value}{ls:List Value}(e5:vs.size=cap*sz)(e3:n<=cap)(hj:j<n)(ma:off+ls.length<=sz)(mZ:j0<sz){i:Nat}(V8:i≠j∨¬ (off<=j0/\j0<off+ls.length)) :
  (x8 vs (j*sz+off) ls).getD (i*sz+j0) undef=vs.getD (i*sz+j0) undef:=by
 have mT:∀ k,k<sz->j*sz+k<vs.size:=fun k hk=>by
  rw[e5];exact z6 (zB5 hj e3) hk
 have bC:j*sz+off+ls.length<=vs.size:=by
  rcases Nat.eq_zero_or_pos (off+ls.length)with h0|h0
  ·have:=mT j0 mZ;omega
  ·have:=mT (off+ls.length-1) va5;omega
 rw[B9 va5,if_neg];rintro⟨h1,h2⟩;rcases V8 with V8|V8
 ·rcases Nat.lt_or_gt_of_ne V8 with z8|sJ
  ·have:=z6 z8 mZ;omega
  ·have:(j+1)*sz<=i*sz:=Nat.mul_le_mul_right sz sJ;rw[Nat.add_mul]at this;omega
 ·by_cases e:i=j
  ·subst e;exact V8 ⟨va5,va5⟩
  ·rcases Nat.lt_or_gt_of_ne e with z8|sJ
   ·have:=z6 z8 mZ;omega
   ·have:(j+1)*sz<=i*sz:=Nat.mul_le_mul_right sz sJ;rw[Nat.add_mul]at this;omega
end
/- Rows whose elements hold slices of their own: stores. A helper text: it speaks of no program. -/
section
variable {P:Program}{B:Nat->Prop}{w0:World}{F0:Env P}{S:St}{β:Nat->Option Hd}{F:Nat->Prop}{a:Act}{w:World}
theorem cC{α:Type}{l:List α}{j:Nat}{y d:α}(hj:j<l.length)(i:Nat):(l.set j y).getD i d=if i=j then y else l.getD i d:=by
 simp only[List.getD,List.getElem?_set];by_cases e:j=i
 ·subst e;simp[hj]
 ·simp[e,Ne.symm e]
theorem yY{α:Type}{ys:α->List Int}{d:α}{ho:Option Nat}{l:List α}{j:Nat}{y:α}(hj:j<l.length)(i:Nat):jh ys d ho (l.set j y) i=if i=j then(if ho=some j then none else some (ys y))else jh ys d ho l i:=by
 unfold jh;rw[List.length_set,cC hj];by_cases e:i=j
 ·subst e;by_cases h:ho=some i<;>simp[h,hj]
 ·simp[e]
theorem Ep(hR:Rel B w0 F0 S β F a w){o:Oper}{t:TypeId}{x y:Operand}(L0:o.op = .store t x y){id sz j off:Nat}(hg:S.get x = .ptr id sz j off){α:Type}{ty:TypeId}{j0:Nat}{G7:TypeId}{d:α}{enc:α->List AV}{ys:α->List Int}{ho:Option Nat}{l:List α}
  (hr:S.row id = .nest ty sz j0 G7 d enc ys ho l) {i:TypeInfo} (hi:P.info? t=some i) {cs:List AV} (rO:(S.get y).cells? = some cs) (G0:cs.length=i.size) (hlen:(enc (l.getD j d)).length=sz) (ma:off+cs.length<=sz) (mZ:j0<sz)
  (yR:¬ (off<=j0/\j0<off+cs.length)) (S9:G8 cs=true) {z:α} (he:enc z=setCells (enc (l.getD j d)) off cs) (Qa:ys z=ys (l.getD j d)) (hj:j<l.length) {K:St->Out->Prop} (hK:K S ⟨.any,[(id,.nest ty sz j0 G7 d enc ys ho (l.set j z))]⟩)
  {Q:Exit->Act->World->Prop}:o.wp P a w (T6 B w0 F0 o.dst K) Q:=by
 obtain⟨c1,c2,c3⟩:=cells?_rep (hR.get y) rO;have TI:(a.eval y).cells.toList.length=cs.length:=by simp[c1]
 have kD:execOp a.eval o=(do Instr.storeAt t (a.eval x) (a.eval y);pure .skip):=by simp[execOp,L0]
 have hx:=hR.get x;rw[hg]at hx;obtain⟨hd,b,hb,hh,hv⟩:=hx.ptr_inv;rw[hv]at kD;obtain⟨lI,jL⟩:=Z2 hR hr hb;rcases jL with ⟨h1,_⟩|⟨b',vs,e1,e2,e3,e4,e5,e6,e7,e8,e9⟩
 ·rw[h1]at hj;simp at hj
 rw[hh]at e1;cases e1
 have bC:j*sz+off+cs.length<=vs.size:=by
  have:(j+1)*sz<=hd.cap*sz:=Nat.mul_le_mul_right sz (zB5 hj e3);rw[Nat.add_mul]at this;rw[e5];omega
 have K4:=bK (P:=P) hi e2 (v:=a.eval y) (o:=j*sz+off) va5 va5 c3;obtain⟨f1,f2,f3⟩:=N2 b vs (x8 vs (j*sz+off) (a.eval y).cells.toList) ty (0,0) e2;refine iB kD K4 ⟨_,_,hK,β,F,hR.write (by rw[hr];simp) (b:=b) (by rw[x7,hb];exact A8 hh) f1 f2 (fun _ => .imm (.any _)) (fun hk=>?_) (fun _ _ _ _ h=>by cases h)⟩;refine⟨hd,hb,by rw[lI];simp,.inr ⟨b,_,hh,f3,by simpa using e3,e4,by rw[C0 va5];exact e5,?_,fun p=>?_,e8,e9⟩⟩
 ·exact yX e3 e5 hj (fun p q hp hq mc=>(e6 p q hp hq mc).mono (fun _ h=>h) hk) ma c1 (fun p hp=>((c2 p hp).shut (H0 S9 p)).mono (fun _ h=>h) hk) (fun k _=>by rw[he]) hlen
 ·rw[bM e5 e3 hj va5 mZ (.inr (by rw[TI];exact yR))];have:jh ys d ho (l.set j z) p=jh ys d ho l p:=by
   rw[yY hj];split
   ·rename_i e;subst e;unfold jh;rw[Qa];by_cases hh:ho=some p<;>simp[hh,hj]
   ·rfl
  rw[this];exact(e7 p).same fun c hc=>f2 c (e9 p c hc)
theorem BJ(hR:Rel B w0 F0 S β F a w){o:Oper}{t:TypeId}{x y:Operand}(L0:o.op = .store t x y){id i k:Nat}(hg:S.get x = .mptr id i k){α:Type}{ty:TypeId}{sz j0:Nat}{G7:TypeId}{d:α}{enc:α->List AV}{ys:α->List Int}{l:List α}
  (hr:S.row id = .nest ty sz j0 G7 d enc ys none l) {inf:TypeInfo} (hi:P.info? t=some inf) (G0:inf.size=1) {n:Int} (hy:S.get y = .int .i64 n) {z:α} (Qa:ys z=(ys (l.getD i d)).set k n) (he:(enc z).set j0 .any=(enc (l.getD i d)).set j0 .any)
  {K:St->Out->Prop} (hK:K S ⟨.any,[(id,.nest ty sz j0 G7 d enc ys none (l.set i z))]⟩) {Q:Exit->Act->World->Prop}:o.wp P a w (T6 B w0 F0 o.dst K) Q:=by
 have kD:execOp a.eval o=(do Instr.storeAt t (a.eval x) (a.eval y);pure .skip):=by simp[execOp,L0]
 have hx:=hR.get x;have DW:=hR.get y;rw[hy]at DW;rw[hg]at hx;rw[DW.int_inv]at kD;obtain⟨hd,c,hb,hh,mT,Zb,hv⟩:∃ hd c,β id=some hd/\(hd.m i).1=some c/\i<hd.len/\k<(hd.m i).2.1/\a.eval x = .pointer (some ⟨c,k,none⟩):=by
  generalize a.eval x=v at hx;cases hx with
  | imm h=>cases h
  | mptr hb hh hi hk=>exact⟨_,_,hb,hh,hi,hk,rfl⟩
 rw[hv]at kD;obtain⟨lI,jL⟩:=Z2 hR hr hb;rcases jL with ⟨h1,_⟩|⟨b,vs,e1,e2,e3,e4,e5,e6,e7,e8,e9⟩
 ·rw[lI,h1]at mT;simp at mT
 rw[lI]at mT;have hm:=e7 i;rw[jh,if_pos ⟨mT,by simp⟩]at hm;obtain⟨m1,m2,m3⟩:=hm;rcases m3 with ⟨_,m4,_⟩|⟨c',us,m4,m5,m6,m7,m8,m9⟩
 ·rw[m4]at hh;cases hh
 rw[hh]at m4;cases m4
 rw[m2]at Zb;obtain⟨Ll,WU⟩:=yP he;have Zc:(Value.int IntKind.i64 n).cells.toList=[.int .i64 n]:=by simp[Value.cells]
 have a0j:(Value.int IntKind.i64 n).cells.size=1:=by simp[Value.cells]
 have K4:=bK (P:=P) hi m5 (v := .int .i64 n) (o:=k) (by rw[G0,a0j]) va5 (fun u hu=>by rw[Zc]at hu;simp at hu;rw[hu];rfl);obtain⟨f1,f2,f3⟩:=N2 c us (x8 us k (Value.int IntKind.i64 n).cells.toList) G7 (0,0) m5;refine iB kD K4 ⟨_,_,hK,β,F,hR.write (by rw[hr];simp) (b:=c) (by rw[x7,hb];exact aX hh) f1 f2 (fun _ => .imm (.any _)) (fun hk=>?_) (fun _ _ _ _ h=>by cases h)⟩;refine⟨hd,hb,by rw[lI];simp,.inr ⟨b,vs,e1,(f2 b fun e=>e9 i c hh e.symm).trans e2,by simpa using e3,e4,e5,fun p q hp hq mc=>?_,fun p=>?_,e8,e9⟩⟩
 ·rw[cC mT];have ph:p<l.length:=by simpa using hp
  split
  ·rename_i e;subst e;rw[WU q mc];exact(e6 p q ph hq mc).mono (fun _ h=>h) hk
  ·exact(e6 p q ph hq mc).mono (fun _ h=>h) hk
 ·rw[yY mT];split
  ·rename_i e;subst e;have V8:¬ ((none:Option Nat)=some p):=by simp
   rw[if_neg V8,Qa];refine⟨m1,by rw[m2];simp,.inr ⟨c,_,hh,f3,by simpa using m6,m7,by rw[C0 (by rw[Zc];simp;omega)];exact m8,fun q hq=>?_⟩⟩;have Lc:q<(ys (l.getD p d)).length:=by simpa using hq
   rw[B9 (by rw[Zc];simp;omega),Zc,cC Zb];by_cases e:q=k
   ·subst e;simp
   ·rw[if_neg e,if_neg (by simp only[zB2,List.length_nil];omega)];exact m9 q Lc
  ·rename_i e;exact(e7 p).same fun c2 sY=>f2 c2 fun e2=>e (e8 p i c (by rw[<- e2];exact sY) hh)
end
/- Rows whose elements hold slices of their own: a slice is laid into an element, or taken out. A helper text: it speaks of no program. -/
section
variable {P:Program}{B:Nat->Prop}{w0:World}{F0:Env P}{S:St}{β:Nat->Option Hd}{F:Nat->Prop}{a:Act}{w:World}
def Hd.setM(hd:Hd)(j:Nat)(m:Option Nat×Nat×Nat):Hd:=⟨hd.b,hd.len,hd.cap,fun p=>if p=j then m else hd.m p⟩
theorem M5(hd:Hd)(j:Nat)(m):(hd.setM j m).m j=m:=by simp[Hd.setM]
theorem I3{hd:Hd}{j p:Nat}(h:p≠j)(m):(hd.setM j m).m p=hd.m p:=by simp[Hd.setM,h]
theorem BK(S:St)(id:Nat)(cons:List Nat)(r:Row)(A5:S.row id ≠ .none)(j:Nat) :
  (St.row ⟨(S.noMem id).t,r8 (S.noMem id).h (cons.map (fun i=>(i,.none))++[(id,r)]),S.n⟩ j)=if id=j then r else if j ∈ cons then .none else E9 id (S.row j):=by
 show(r8 (S.noMem id).h (cons.map (fun i=>(i,.none))++[(id,r)])).getD j .none=_
 have z8:=fQ A5;rw[X4];simp only[r8,r7,O8,X5];have e:(S.noMem id).h.length=S.h.length:=by simp[St.noMem]
 have e2:(S.noMem id).h.getD j .none=E9 id (S.row j):=bL S id j;rw[e,e2];by_cases hj:id=j<;>simp[hj]
 subst hj;intro hh;omega
theorem BL{m:Option Nat×Nat×Nat}{G7:TypeId}{zs:List Int}{v:Value}(h:iz w G7 m (some zs) v){β:Nat->Option Hd}{e:Nat}(he:β e=some ⟨m.1,m.2.1,m.2.2,jr⟩):y8 β F w e (.vec G7 1 (0:Int) aR zs):=by
 obtain⟨h1,h2,h3⟩:=h;refine⟨_,he,rfl,h2,?_⟩;rcases h3 with ⟨h3,h4,h5⟩|⟨c,us,h4,h5,h6,h7,h8,h9⟩
 ·exact .inl ⟨h3,h4,h5⟩
 ·refine .inr ⟨c,us,h4,h5,h6,h7,by simpa using h8,fun i j hi hj=>?_⟩;have e:j=0:=by omega
  subst e;rw[Nat.mul_one,Nat.add_zero,h9 i hi];exact .int _ _
theorem BM(hR:Rel B w0 F0 S β F a w){o:Oper}{t:TypeId}{x y:Operand}(L0:o.op = .store t x y){id sz j j0:Nat}(hg:S.get x = .ptr id sz j j0){α:Type}{ty:TypeId}{G7:TypeId}{d:α}{enc:α->List AV}{ys:α->List Int}{ho:Option Nat}{l:List α}
  (hr:S.row id = .nest ty sz j0 G7 d enc ys ho l) {i:TypeInfo} (hi:P.info? t=some i) {e:Nat} (rO:(S.get y).cells? = some [.own e]) (G0:1=i.size) (hlen:(enc (l.getD j d)).length=sz) (mZ:j0<sz)
  (hk:A3 S id=true) {zs:List Int} (yQ:S.row e = .vec G7 1 (0:Int) aR zs) {z:α} (Qa:ys z=zs) (he:(enc z).set j0 .any=(enc (l.getD j d)).set j0 .any) (hj:j<l.length) (Ww:Xn ho j) (jR:o.dst=none)
  {K:St->Out->Prop} (hK:K (S.noMem id) ⟨.any,[(e,.none),(id,.nest ty sz j0 G7 d enc ys none (l.set j z))]⟩) {Q:Exit->Act->World->Prop}:o.wp P a w (T6 B w0 F0 o.dst K) Q:=by
 obtain⟨c1,c2,c3⟩:=cells?_rep (hR.get y) rO;simp only[zB2,List.length_nil,Nat.zero_add]at c1 c2;have cv:=c2 0 va5;simp only[List.getD_cons_zero]at cv;obtain⟨v0,jD⟩:∃ v0,(a.eval y).cells.toList=[v0]:=by
  match hh:(a.eval y).cells.toList,(by simp[c1]:(a.eval y).cells.toList.length=1)with
  | [v0],_=>exact⟨v0,rfl⟩
 have Xj:(a.eval y).cells.getD 0 undef=v0:=by
  have:(a.eval y).cells=#[v0]:=by rw[<- Array.toArray_toList (xs:=(a.eval y).cells),jD]
  rw[this];rfl
 rw[Xj]at cv;obtain⟨Er,Bc,hve⟩:=cv.own_inv;have V8:e≠id:=fun h=>by subst h;rw[yQ]at hr;cases hr
 have kD:execOp a.eval o=(do Instr.storeAt t (a.eval x) (a.eval y);pure .skip):=by simp[execOp,L0]
 have hx:=hR.get x;rw[hg]at hx;obtain⟨hd,b,hb,hh,hv⟩:=hx.ptr_inv;rw[hv]at kD;obtain⟨lI,jL⟩:=Z2 hR hr hb;rcases jL with ⟨h1,_⟩|⟨b',vs,e1,e2,e3,e4,e5,e6,e7,e8,e9⟩
 ·rw[h1]at hj;simp at hj
 rw[hh]at e1;cases e1
 have bC:j*sz+j0+1<=vs.size:=by
  have:(j+1)*sz<=hd.cap*sz:=Nat.mul_le_mul_right sz (zB5 hj e3);rw[Nat.add_mul]at this;rw[e5];omega
 have A5:S.row id ≠ .none:=by rw[hr];simp
 have hoY:∀ p,p≠j->jh ys d ho l p=jh ys d none l p:=fun p hp=>by
  unfold jh;have h0:¬ ((none:Option Nat)=some p):=by simp
  cases ho with
  | none=>rfl
  | some h =>
   have:h=j:=Ww;subst this;have:¬ (some h=some p):=by simp[Ne.symm hp]
   simp[this]
 -- the slice that the element held is given up
 have key:∀ {w':World} {F':Nat->Prop} {Wx:Array Value} {β':Nat->Option Hd},C5 F w w'->β' id=some (hd.setM j (none,0,0))->w'.heap[b]? = some (.cells Wx ty (0,0))->(∀ p c,(hd.m p).1=some c->w'.heap[c]? = w.heap[c]?)->Wx.size=vs.size ->
   (∀ p q,p<l.length->q<sz->q≠j0->Wx.getD (p*sz+q) undef=vs.getD (p*sz+q) undef)->(∀ p,p≠j->Wx.getD (p*sz+j0) undef=vs.getD (p*sz+j0) undef)->y8 β' F w' id (.nest ty sz j0 G7 d enc ys (some j) l):=by
  intro w' _ Wx β' TY mb Xo Es jM H7 Ip;refine⟨_,mb,lI,.inr ⟨b,Wx,hh,Xo,e3,e4,by rw[jM];exact e5,fun p q hp hq mc=>by rw[H7 p q hp hq mc];exact(e6 p q hp hq mc).mono (fun _ h=>h) TY,fun p=>?_,fun p q c hp hq=>?_,fun p c hp=>?_⟩⟩
  ·by_cases e:p=j
   ·subst e;rw[M5];have:jh ys d (some p) l p=none:=by simp[jh]
    rw[this];rfl
   ·rw[I3 e,Ip p e];have:jh ys d (some j) l p=jh ys d ho l p:=by
     rw[hoY p e];unfold jh;have h1:(some j:Option Nat)≠some p:=by simp[Ne.symm e]
     simp[h1]
    rw[this];exact(e7 p).same (Es p)
  ·by_cases ep:p=j
   ·subst ep;rw[M5]at hp;cases hp
   ·by_cases eq:q=j
    ·subst eq;rw[M5]at hq;cases hq
    ·rw[I3 ep]at hp;rw[I3 eq]at hq;exact e8 p q c hp hq
  ·by_cases ep:p=j
   ·subst ep;rw[M5]at hp;cases hp
   ·rw[I3 ep]at hp;exact e9 p c hp
 obtain⟨β1,g1,g2,iF⟩:=hR.held hb (hR.topn id hk) A5 (hd':=hd.setM j (none,0,0)) rfl rfl rfl (cons:=[]) va9 (r := .nest ty sz j0 G7 d enc ys (some j) l)
  (fun β' h _=>key (F':=F) (C5.refl _ _) h e2 (fun _ _ _=>rfl) rfl (fun _ _ _ _ _=>rfl) (fun _ _=>rfl)) (fun _ _ _ _ h=>by cases h) (fun c hc => .inl (by
   rw[x7,hb];rcases hc with hc|⟨p,hc⟩
   ·exact .inl hc
   ·by_cases ep:p=j
    ·subst ep;rw[M5]at hc;cases hc
    ·rw[I3 ep]at hc;exact .inr ⟨p,hc⟩))
 have Et:=BK S id [] (.nest ty sz j0 G7 d enc ys (some j) l) A5
 -- the write
 have K4:=bK (P:=P) hi e2 (v:=a.eval y) (o:=j*sz+j0) (by rw[c1];exact G0) va5 c3;obtain⟨f1,f2,f3⟩:=N2 b vs (x8 vs (j*sz+j0) (a.eval y).cells.toList) ty (0,0) e2;have H7:∀ p q,p<l.length->q<sz->q≠j0->(x8 vs (j*sz+j0) (a.eval y).cells.toList).getD (p*sz+q) undef=vs.getD (p*sz+q) undef:=fun p q hp hq mc=>by
  rw[jD,B9 (by simpa using bC),if_neg];simp only[zB2,List.length_nil,Nat.zero_add];rintro⟨q1,q2⟩;have q3:p*sz+q=j*sz+j0:=by omega
  rcases Nat.lt_trichotomy p j with z8|rfl|sJ
  ·have:=z6 z8 hq;omega
  ·omega
  ·have:(j+1)*sz<=p*sz:=Nat.mul_le_mul_right sz sJ;rw[Nat.add_mul]at this;omega
 have Ip:∀ p,p≠j->(x8 vs (j*sz+j0) (a.eval y).cells.toList).getD (p*sz+j0) undef=vs.getD (p*sz+j0) undef:=fun p hp =>
  bM e5 e3 hj (by rw[jD];simp only[zB2,List.length_nil];omega) mZ (.inl hp)
 have yG:(x8 vs (j*sz+j0) (a.eval y).cells.toList).size=vs.size:=C0 (by rw[jD];simpa using bC);have jO:=iF.write (id:=id) (b:=b) (dst:=none) (x := .any) (v:=undef) (r := .nest ty sz j0 G7 d enc ys (some j) l) (by rw[Et];simp) (by rw[x7,g1];exact A8 hh) f1 f2 (fun _ => .imm (.any _))
  (fun TY=>key (F':=F) TY g1 f3 (fun p c hc=>f2 c (e9 p c hc)) yG H7 Ip) (fun _ _ _ _ h=>by cases h)
 generalize Zd:(⟨(S.noMem id).t,r8 (S.noMem id).h (([]:List Nat).map (fun i=>(i,.none))++[(id,.nest ty sz j0 G7 d enc ys (some j) l)]),S.n⟩:St)=S1 at iF jO Et;have t1:S1.t=(S.noMem id).t:=by rw[<- Zd]
 have n1:S1.n=S.n:=by rw[<- Zd]
 have lt1:id<S1.h.length:=fQ (by rw[Et];simp);have Qb:∀ p,(S1.put none ⟨.any,[(id,.nest ty sz j0 G7 d enc ys (some j) l)]⟩).row p=if id=p then .nest ty sz j0 G7 d enc ys (some j) l else E9 id (S.row p):=fun p=>by
  show(r8 S1.h [(id,_)]).getD p .none=_
  simp only[r8,r7];by_cases ep:id=p
  ·simp[ep,lt1];subst ep;intro h;omega
  ·simp only[ep,false_and,if_false];have:=Et p;rw[if_neg ep]at this;simpa[St.row]using this
 have a0m:β1 e=some Er:=(g2 e V8).trans Bc;obtain⟨hle,TZ⟩:=ag hR yQ Bc;have bne:∀ c,Er.b=some c->c≠b/\∀ p,(hd.m p).1≠some c:=fun c hc=>by
  have o1:x7 β e c:=by rw[x7,Bc];exact A8 hc
  have Bq:S.row e ≠ .none:=by rw[yQ];simp
  refine⟨fun h=>?_,fun p h=>?_⟩
  ·subst h;exact V8 (hR.inj e id c Bq A5 o1 (by rw[x7,hb];exact A8 hh))
  ·exact V8 (hR.inj e id c Bq A5 o1 (by rw[x7,hb];exact aX h))
 have Ze:C5 F w (w.setRow b (x8 vs (j*sz+j0) (a.eval y).cells.toList)):=fun k o' u hF hc=>by
  have:k≠b:=fun h=>hR.bF id b A5 (by rw[x7,hb];exact A8 hh) (h ▸ hF)
  rw[World.cell?_of_block (w:=w) (f2 k this)];exact hc
 obtain⟨Ll,WU⟩:=yP he
 -- the new slice is taken over
 obtain⟨β2,g3,g4,gD⟩:=jO.held g1 (hR.topn id hk) (by rw[Qb];simp) (hd':=hd.setM j (Er.b,Er.len,Er.cap)) rfl rfl rfl (cons:=[e]) (by simp[Ne.symm V8]) (r := .nest ty sz j0 G7 d enc ys none (l.set j z))
  (fun β' h _=>by
   refine⟨_,h,by rw[List.length_set];exact lI,.inr ⟨b,_,hh,f3,by rw[List.length_set];exact e3,e4,by rw[yG];exact e5,fun p q hp hq mc=>?_,fun p=>?_,fun p q c hp hq=>?_,fun p c hp=>?_⟩⟩
   ·have ph:p<l.length:=by simpa using hp
    rw[H7 p q ph hq mc,cC hj];split
    ·rename_i ep;subst ep;rw[WU q mc];exact(e6 p q ph hq mc).mono (fun _ h=>h) Ze
    ·exact(e6 p q ph hq mc).mono (fun _ h=>h) Ze
   ·rw[yY hj];by_cases ep:p=j
    ·subst ep;rw[M5,if_pos rfl,if_neg va9,Qa];have ev:(x8 vs (p*sz+j0) (a.eval y).cells.toList).getD (p*sz+j0) undef=v0:=by
      rw[jD,B9 (by simpa using bC),if_pos ⟨Nat.le_refl _,by simp⟩,Nat.sub_self];rfl
     rw[ev];refine(jN hle TZ hve).same fun c hc=>f2 c (bne c hc).1
    ·rw[I3 ep,if_neg ep,Ip p ep,<- hoY p ep];exact(e7 p).same fun c hc=>f2 c (e9 p c hc)
   ·by_cases ep:p=j
    ·by_cases eq:q=j
     ·rw[ep,eq]
     ·subst ep;rw[M5]at hp;rw[I3 eq]at hq;exact absurd hq ((bne c hp).2 q)
    ·by_cases eq:q=j
     ·subst eq;rw[M5]at hq;rw[I3 ep]at hp;exact absurd hp ((bne c hq).2 p)
     ·rw[I3 ep]at hp;rw[I3 eq]at hq;exact e8 p q c hp hq
   ·by_cases ep:p=j
    ·subst ep;rw[M5]at hp;exact(bne c hp).1
    ·rw[I3 ep]at hp;exact e9 p c hp) (fun _ _ _ _ h=>by cases h)
  (fun c hc=>by
   rcases hc with hc|⟨p,hc⟩
   ·exact .inl (by rw[x7,g1];exact .inl hc)
   ·by_cases ep:p=j
    ·subst ep;rw[M5]at hc;exact .inr ⟨e,by simp,by rw[Qb,if_neg (Ne.symm V8),yQ];simp[E9],by rw[x7,a0m];exact A8 hc⟩
    ·rw[I3 ep]at hc
     exact .inl (by rw[x7,g1];exact .inr ⟨p,by rw[I3 ep];exact hc⟩))
 have LL:a.put o.dst undef=a:=by rw[jR];rfl
 have Xp:a.put none undef=a:=rfl;rw[Xp]at gD;refine iB kD K4 ⟨_,_,hK,β2,F,?_⟩;rw[LL];have Iq:=BK (S1.put none ⟨.any,[(id,.nest ty sz j0 G7 d enc ys (some j) l)]⟩) id [e] (.nest ty sz j0 G7 d enc ys none (l.set j z)) (by rw[Qb];simp);refine gD.forget ?_ (by rw[jR];exact n1.symm) fun p => .inl ?_
 ·rw[jR];show(S.noMem id).t=(S1.t).map (L8 id)
  rw[t1];exact(congrArg St.t (BH S id)).symm
 ·rw[Iq p,jR];show(r8 (S.noMem id).h [(e,.none),(id,_)]).getD p .none=_
  have a3g:id<(S.noMem id).h.length:=by have:=fQ A5;simpa[St.noMem]using this
  simp only[r8,r7,List.length_set];by_cases ep:id=p
  ·simp[ep];subst ep;intro h;omega
  ·simp only[ep,false_and,if_false,List.mem_singleton];by_cases eq:e=p
   ·subst eq;have:e<(S.noMem id).h.length:=by have:=fQ (S:=S) (id:=e) (by rw[yQ];simp);simpa[St.noMem]using this
    simp[this]
   ·rw[if_neg (fun h=>eq h.1),if_neg (fun h=>eq h.symm),Qb,if_neg ep,jQ];exact bL S id p
end
/- Rows whose elements hold slices of their own: a slice is taken out; append; the rest; all of them together. A helper text: it speaks of no program. -/
section
variable {P:Program}{B:Nat->Prop}{w0:World}{F0:Env P}{S:St}{β:Nat->Option Hd}{F:Nat->Prop}{a:Act}{w:World}
theorem lP(x:AV):∀ (ss:List Nat) (t:List AV),(iJ t x ss).length=t.length
 | [],_=>rfl
 | s :: ss,t=>by simp only[iJ];rw[lP x ss];simp
theorem qD(x:AV):∀ (ss:List Nat) (t:List AV) (i:Nat),i<t.length->(iJ t x ss).getD i .any=if i ∈ ss then x else t.getD i .any
 | [],_,_,_=>by simp[iJ]
 | s :: ss,t,i,hi=>by
  simp only[iJ];rw[qD x ss _ i (by simpa using hi),T0];by_cases h1:i ∈ ss
  ·simp[h1]
  ·by_cases h2:i=s
   ·subst h2;simp[h1,hi]
   ·simp[h1,h2,Ne.symm h2]
theorem Rel.explode(hR:Rel B w0 F0 S β F a w){id g e:Nat}{α:Type}{ty:TypeId}{sz j0:Nat}{G7:TypeId}{d:α}{enc:α->List AV}{ys:α->List Int}{l:List α}(hr:S.row id = .nest ty sz j0 G7 d enc ys none l)(hk:A3 S id=true)
  (he:β e=none) (hle:e<S.h.length) (hg:g<l.length) {ss:List Nat} (hss:∀ s ∈ ss,S.t.getD s .any = .mem id g) :
  ∃ β',Rel B w0 F0 (S.explode id e (.vec G7 1 (0:Int) aR (ys (l.getD g d))) (.nest ty sz j0 G7 d enc ys (some g) l) ss) β' F a w:=by
 have A5:S.row id ≠ .none:=by rw[hr];simp
 obtain⟨hd,hb⟩:=(hR.rows id).some A5;have V8:e≠id:=fun h=>by subst h;rw[he]at hb;cases hb
 have he0:S.row e = .none:=by
  cases h:S.row e with
  | none=>rfl
  | _ =>
   obtain⟨mU,h2⟩:=(hR.rows e).some (by rw[h];simp);rw[he]at h2;cases h2
 obtain⟨lI,jL⟩:=Z2 hR hr hb;rcases jL with ⟨h1,_⟩|⟨b,vs,e1,e2,e3,e4,e5,e6,e7,e8,e9⟩
 ·rw[h1]at hg;simp at hg
 have hm:=e7 g;rw[jh,if_pos ⟨hg,by simp⟩]at hm
 let jv:=hd.setM g (none,0,0)
 let Er:Hd:=⟨(hd.m g).1,(hd.m g).2.1,(hd.m g).2.2,jr⟩
 let β':Nat->Option Hd:=fun j=>if j=id then some jv else if j=e then some Er else β j
 have b1:β' id=some jv:=by simp[β']
 have b2:β' e=some Er:=by simp[β',V8]
 have b3:∀ j,j≠id->j≠e->β' j=β j:=fun j h1 h2=>by simp[β',h1,h2]
 have b4:∀ j,j≠id->β j≠none->β' j=β j:=fun j h1 h2=>b3 j h1 fun h=>h2 (h ▸ he)
 let r1:Row := .vec G7 1 (0:Int) aR (ys (l.getD g d))
 let r2:Row := .nest ty sz j0 G7 d enc ys (some g) l
 have a0n:=fQ A5;have A1:∀ j,(S.explode id e r1 r2 ss).row j=if id=j then r2 else if e=j then r1 else E9 id (S.row j):=fun j=>by
  show((((S.noMem id).h.set e r1).set id r2)).getD j .none=_
  rw[r7,r7];have hh:(S.noMem id).h.length=S.h.length:=by simp[St.noMem]
  have e2:(S.noMem id).h.getD j .none=E9 id (S.row j):=bL S id j;rw[List.length_set,hh,e2];by_cases ej:id=j
  ·subst ej;simp[a0n]
  ·by_cases ej2:e=j
   ·subst ej2;simp[ej,hle]
   ·simp[ej,ej2]
 have live:∀ j,j≠id->j≠e->(S.explode id e r1 r2 ss).row j ≠ .none->S.row j ≠ .none:=fun j h1 h2 h=>by
  rw[A1,if_neg (Ne.symm h1),if_neg (Ne.symm h2)]at h;exact fun h3=>h (fY.2 h3)
 have o1:∀ c,x7 β' id c->x7 β id c/\(hd.m g).1≠some c:=fun c hc=>by
  rw[x7,b1]at hc;rw[x7,hb];rcases hc with hc|⟨p,hc⟩
  ·refine⟨.inl hc,fun h=>?_⟩;have:hd.b=some c:=hc;rw[e1]at this;cases this
   exact e9 g b h rfl
  ·have hp:p≠g:=fun h=>by subst h;rw[show jv.m p=(none,0,0) from M5 _ _ _]at hc;cases hc
   rw[show jv.m p=hd.m p from I3 hp _]at hc;exact⟨.inr ⟨p,hc⟩,fun h=>hp (e8 p g c hc h)⟩
 have o2:∀ c,x7 β' e c->(hd.m g).1=some c:=fun c hc=>by
  rw[x7,b2]at hc;exact P7.1 hc
 have o3:∀ c,(hd.m g).1=some c->x7 β id c:=fun c hc=>by rw[x7,hb];exact aX hc
 have o4:∀ j c,j≠id->j≠e->(x7 β' j c↔x7 β j c):=fun j c h1 h2=>by rw[x7,x7,b3 j h1 h2]
 refine⟨β',hR.trade (by show(iJ _ _ _).length=_;rw[lP];simp[St.noMem]) rfl (fun i hi=>?_) (fun j=>?_) (fun i j c hi hj B3 P6=>?_) (fun i c hi B3=>?_) (fun i c B3=>?_) (fun j mU hj=>?_) (fun j l' xs k e' h=>?_)⟩
 ·show C4 β' F w ((iJ (S.noMem id).t (.own e) ss).getD i .any) _
  have cI:i<(S.noMem id).t.length:=by simpa[St.noMem]using hi
  rw[qD _ _ _ _ cI];split
  ·rename_i hs;have:=hR.slots i hi;rw[hss i hs]at this;generalize a.tmps.getD i undef=v at this;cases this with
   | imm h=>cases h
   | @mem _ _ mU cJ _ =>
    rw[hb]at cJ;cases cJ
    exact C4.own b2
  ·show C4 β' F w ((S.t.map (L8 id)).getD i .any) _
   rw[u0 _ (cL id)];exact(hR.slots i hi).noMem hb b1 rfl rfl rfl b4
 ·rw[A1];split
  ·rename_i ej;subst ej;refine⟨jv,b1,lI,.inr ⟨b,vs,e1,e2,e3,e4,e5,e6,fun p=>?_,fun p q c hp hq=>?_,fun p c hp=>?_⟩⟩
   ·by_cases ep:p=g
    ·subst ep;rw[show jv.m p=(none,0,0) from M5 _ _ _];have:jh ys d (some p) l p=none:=by simp[jh]
     rw[this];rfl
    ·rw[show jv.m p=hd.m p from I3 ep _];have:jh ys d (some g) l p=jh ys d none l p:=by
      unfold jh;have h1:(some g:Option Nat)≠some p:=by simp[Ne.symm ep]
      simp[h1]
     rw[this];exact e7 p
   ·by_cases ep:p=g
    ·subst ep;rw[show jv.m p=(none,0,0) from M5 _ _ _]at hp;cases hp
    ·by_cases eq:q=g
     ·subst eq;rw[show jv.m q=(none,0,0) from M5 _ _ _]at hq;cases hq
     ·rw[show jv.m p=hd.m p from I3 ep _]at hp;rw[show jv.m q=hd.m q from I3 eq _]at hq;exact e8 p q c hp hq
   ·by_cases ep:p=g
    ·subst ep;rw[show jv.m p=(none,0,0) from M5 _ _ _]at hp;cases hp
    ·rw[show jv.m p=hd.m p from I3 ep _]at hp;exact e9 p c hp
  ·split
   ·rename_i ej;subst ej;exact BL hm b2
   ·rename_i h1 h2;exact iI hb b1 rfl rfl rfl b4 (Ne.symm h1) (hR.rows j)
 ·by_cases i1:i=id
  ·by_cases j1:j=id
   ·rw[i1,j1]
   ·exfalso;subst i1;obtain⟨q1,q2⟩:=o1 c B3;by_cases j2:j=e
    ·subst j2;exact q2 (o2 c P6)
    ·rw[o4 j c j1 j2]at P6;exact j1 (hR.inj j i c (live j j1 j2 hj) A5 P6 q1)
  ·by_cases i2:i=e
   ·by_cases j1:j=id
    ·exfalso;subst i2;subst j1;exact(o1 c P6).2 (o2 c B3)
    ·by_cases j2:j=e
     ·rw[i2,j2]
     ·exfalso;subst i2;rw[o4 j c j1 j2]at P6;exact j1 (hR.inj j id c (live j j1 j2 hj) A5 P6 (o3 c (o2 c B3)))
   ·rw[o4 i c i1 i2]at B3;by_cases j1:j=id
    ·exfalso;subst j1;exact i1 (hR.inj i j c (live i i1 i2 hi) A5 B3 (o1 c P6).1)
    ·by_cases j2:j=e
     ·exfalso;subst j2;exact i1 (hR.inj i id c (live i i1 i2 hi) A5 B3 (o3 c (o2 c P6)))
     ·rw[o4 j c j1 j2]at P6;exact hR.inj i j c (live i i1 i2 hi) (live j j1 j2 hj) B3 P6
 ·by_cases i1:i=id
  ·subst i1;exact⟨i,A5,(o1 c B3).1⟩
  ·by_cases i2:i=e
   ·subst i2;exact⟨id,A5,o3 c (o2 c B3)⟩
   ·rw[o4 i c i1 i2]at B3;exact⟨i,live i i1 i2 hi,B3⟩
 ·by_cases i1:i=id
  ·subst i1;exact⟨i,(o1 c B3).1⟩
  ·by_cases i2:i=e
   ·subst i2;exact⟨id,o3 c (o2 c B3)⟩
   ·rw[o4 i c i1 i2]at B3;exact⟨i,B3⟩
 ·have h1:j≠id:=fun h=>by subst h;rw[hR.topn _ hk]at hj;cases hj
  have h2:j≠e:=fun h=>by subst h;rw[hR.top _ _ hj]at he;cases he
  exact(b3 j h1 h2).trans (hR.top j mU hj)
 ·rw[A1]at h;split at h
  ·exact absurd h (by simp[r2])
  ·split at h
   ·exact absurd h (by simp[r1])
   ·cases LF:S.row j<;>rw[LF]at h<;>simp[E9]at h
    simp[h]
end
/- Rows whose elements hold slices of their own: all operations. A helper text: it speaks of no program. -/
section
variable {P:Program}{B:Nat->Prop}{w0:World}{F0:Env P}{S:St}{β:Nat->Option Hd}{F:Nat->Prop}{a:Act}{w:World}
theorem Ir(hR:Rel B w0 F0 S β F a w){o:Oper}{t e:TypeId}{k:IntKind}{y:Operand}(ho:o.op = .makeSlice t (.const (.int k 0)) y){d:Nat}(hd:o.dst=some d)(B1:β d=none)(hu:P.underlying t=some (.slice e)){k':IntKind}{c:Int}(hy:S.get y = .int k' c)
  {i:TypeInfo} {z:List AV} (hi:P.info? e=some i) (hz:dc P e=some z) (rq:z.length=i.size) {r:Row} (hr:BI e i.size r) (h0:0<=c) (h1:c<=1048576) (hby:i.bytes<=1048576) {K:St->Out->Prop} (hK:K S ⟨.own d,[(d,r)]⟩) {Q:Exit->Act->World->Prop} :
  o.wp P a w (T6 B w0 F0 o.dst K) Q:=by
 obtain⟨i',zv,cI,DU,_,La⟩:=ak (β:=β) (F:=F) (w:=w) hz;rw[hi]at cI; cases cI
 have DW:=hR.get y;rw[hy]at DW;have hc0:a.eval (.const (.int k 0)) = .int k 0:=rfl;have L0:execOp a.eval o=(do pure (.value (<- Instr.makeSlice t (a.eval (.const (.int k 0))) (a.eval y)))):=by simp[execOp,ho]
 rw[hc0,DW.int_inv]at L0;have hw:IntKind.i64.wrap c=c:=IntWalk.i64_in c va5;have hw0:IntKind.i64.wrap 0=0:=by decide
 have ZR:(i.bytes:Int)*c<=1048576*1048576:=Int.mul_le_mul (show(i.bytes:Int)<=1048576 by omega) h1 h0 va5;have TM:¬ ((281474976710656:Int)<(i.bytes:Int)*c):=by omega
 have Xq:¬ ((281474976710656:Int)<(i.bytes:Int)*0):=by omega
 have Lw:¬ c<0:=by omega
 have cK:¬ (roomBytes<c.toNat*i.bytes):=by
  have e:((c.toNat*i.bytes:Nat):Int)=(i.bytes:Int)*c:=by rw[Int.natCast_mul,Int.toNat_of_nonneg h0,Int.mul_comm]
  simp only[roomBytes];omega
 let cells:Array Value:=(Array.range (c.toNat*i.size)).map (zv.cells[· % zv.cells.size]!)
 have K4:(Instr.makeSlice t (.int k 0) (.int k' c)).run P w = .ok (.slice (some ⟨w.heap.size,0,none⟩) 0 c.toNat) (w.alloc (.cells cells e)):=by
  simp only[Instr.makeSlice,Sem.run_bind,run_underlying hu,Result.andThen_ok,asInt,asIntOf,Sem.run_pure,typeInfo,run_program,hi,hw,hw0];simp only[Lw,show ¬ ((0:Int)<0)by decide,show ¬ ((0:Int) > c)by omega,decide_false,Bool.false_or,Bool.or_false,gt_iff_lt,Int.lt_irrefl,show(2:Int)^48=281474976710656 by rfl,TM,Xq,Int.mul_zero,zB0,if_false,askRoom,cK];simp only[Sem.run_bind,Sem.run_pure,Result.andThen_ok,run_sizeOf w hi,Program.cellsOf,hi,Option.map_some,Option.getD_some];split
  ·rename_i ZS;have e0:∀ (f g:Nat->Value),(Array.range (c.toNat*i.size)).map f=(Array.range (c.toNat*i.size)).map g:=fun f g=>by rw[ZS];simp
   simp only[Sem.run_bind,Sem.run_pure,Result.andThen_ok];rw[e0 _ (zv.cells[· % zv.cells.size]!)];simp[newRow,cells]
  ·simp only[Sem.run_bind,zeroValue,typeInfo,run_program,hi,DU,Result.andThen_ok,Sem.run_pure];simp[newRow,cells]
 obtain⟨β',g1,g2⟩:=hR.alloc B1 (dst:=o.dst) (x := .own d) (v := .slice (some ⟨w.heap.size,0,none⟩) 0 c.toNat) (r:=r) (vs:=cells) (ty:=e) 0 c.toNat
  (fun β' hb _=>by have:=C4.own (F:=F) (w:=w.alloc (.cells cells e)) hb;simpa using this)
  (fun β' hb hg hk=>by
   cases r with
   | vec ty sz d0 enc l =>
    obtain⟨r1,r2,r3⟩:=hr;subst r1;subst r2;have:l=[]:=List.eq_nil_of_length_eq_zero r3;subst this;exact⟨_,hb,rfl,rfl,.inr ⟨w.heap.size,cells,rfl,O7 w _,zB4 _,by simp only[maxLen];omega,by simp[cells],fun p q hp=>absurd hp (zB3 p)⟩⟩
   | nest ty sz j0 G7 d0 enc ys hoo l =>
    obtain⟨r1,r2,r3,r4⟩:=hr;subst r1;subst r2;subst r3;have:l=[]:=List.eq_nil_of_length_eq_zero r4;subst this;exact⟨_,hb,rfl,.inr ⟨w.heap.size,cells,rfl,O7 w _,zB4 _,by simp only[maxLen];omega,by simp[cells],fun p q hp=>absurd hp (zB3 p),fun p=>by simp[jh,iz,jr],fun p q c hp=>(by cases hp),fun p c hp=>(by cases hp)⟩⟩
   | _=>exact hr.elim) (fun _ _ _ _ h=>by subst h;exact hr.elim)
 exact K3 L0 K4 ⟨_,_,hK,β',F,g2⟩
theorem Eu{ss:List Nat}{f:Nat->AV}{x:AV}(h:ss.map f=ss.map fun _=>x):∀ s ∈ ss,f s=x:=by
 intro s hs;exact List.map_inj_left.1 h s hs
theorem Qc{ff:St->(St->Prop)->Prop}(hff:∀ S K,ff S K=K S)(hR:Rel B w0 F0 S β F a w){o:Oper}(B1:Y9 o.op=true->∀ d,o.dst=some d->β d=none){K:St->Out->Prop}{W:St->Prop}{E G:Prop}{Q:Exit->Act->World->Prop}
  (hG:(∀ c,o.op ≠ .defer c)->o.wp P a w (T6 B w0 F0 o.dst K) Q->G) (hE:E->G) (hW:(∃ c f,o.op = .call c/\c.callee = .value f)->∀ S' β',Rel B w0 F0 S' β' F a w->W S'->G) (h:Za ff P o S K W E):G:=by
 unfold Za at h;split at h
 ·rename_i t x y ho;have gH:∀ c,o.op ≠ .defer c:=fun c e=>by rw[ho]at e;cases e
  split at h
  ·rename_i id sz j off hg;split at h
   ·rename_i hr;split at h
    ·rename_i i cs hi rO;split at h
     ·rename_i hc;simp only[zA2]at hc;obtain⟨c1,c2,c3,c4,c5⟩:=hc;have c1:=zA8 c1;have c2:=zA8 c2;have c3:=zA8 c3;have c4:=Nat.le_of_ble_eq_true c4;have c5:=zB5 (Nat.lt_succ_self _) (Nat.le_of_ble_eq_true c5);subst c2;split at h
      ·rename_i yR;have yR:=zA8 yR;subst yR;split at h
       ·split at h
        ·rename_i hk;obtain⟨zs,z,⟨q1,q2,q3,q4,q5⟩,hK⟩:=h;rw[hff]at hK;exact hG gH (BM hR ho hg hr hi rO c1 c3 c5 hk q1 q2 q3 q4 q5 (by assumption) hK)
        ·exact h.elim
       ·exact h.elim
      ·split at h
       ·rename_i yR sY;simp only[zA2,zA9]at sY;obtain⟨z,⟨q1,q2,q3⟩,hK⟩:=h;refine hG gH (Ep hR ho hg hr hi rO c1 c3 c4 c5 ?_ sY.2 q1 q2 q3 hK);rcases sY.1 with h1|h1
        ·have:=Nat.le_of_ble_eq_true h1;omega
        ·have h2:=zB5 (Nat.lt_succ_self _) (Nat.le_of_ble_eq_true h1);omega
       ·exact h.elim
     ·exact h.elim
    ·exact h.elim
   ·exact hE h
  ·rename_i id i k hg;split at h
   ·rename_i hr;split at h
    ·rename_i inf n hi hy;split at h
     ·rename_i G0;obtain⟨z,⟨q1,q2⟩,hK⟩:=h;exact hG gH (BJ hR ho hg hr hi (zA8 G0) hy q1 q2 hK)
     ·exact h.elim
    ·exact h.elim
   ·exact hE h
  ·exact hE h
 ·rename_i t k cap ho;have gH:∀ c,o.op ≠ .defer c:=fun c e=>by rw[ho]at e;cases e
  split at h
  ·exact hE h
  ·split at h
   ·rename_i d e k' c hd hu hy;split at h
    ·rename_i i z hi hz;split at h
     ·rename_i rq;obtain⟨r,⟨q1,q2,q3,q4⟩,hK⟩:=h;exact hG gH (Ir hR ho hd (B1 (by rw[ho];rfl) d hd) hu hy hi hz (zA8 rq) q1 q2 q3 q4 hK)
     ·exact h.elim
    ·exact h.elim
   ·exact h.elim
 ·rename_i c ho;have gH:∀ c,o.op ≠ .defer c:=fun c e=>by rw[ho]at e;cases e
  split at h
  ·rename_i f hb;split at h
   ·rcases h with h|⟨id,g,e,ss,hk,h⟩
    ·exact hE h
    ·rw[hff]at h;simp only[zA2]at hk;obtain⟨hk,z8⟩:=hk;have z8:e<S.h.length:=Nat.le_of_ble_eq_true z8;obtain⟨β1,h1,h2,iF⟩:=hR.kill e (hR.topn e hk);split at h
     ·rename_i Ld;split at h
      ·rename_i hr;obtain⟨⟨q1,q2⟩,hw⟩:=h;rw[hff]at hw;obtain⟨β2,jO⟩:=iF.explode hr Ld h1 (by simpa[St.kill]using z8) q1 (Eu q2);exact hW ⟨_,_,ho,hb⟩ _ β2 jO hw
      ·exact h.elim
     ·exact h.elim
   ·exact hE h
  ·exact hE h
 ·exact hE h
end
/- Regions in any order: an operation leans on what it looks at. A helper text: it speaks of no program. -/
section
variable {P:Program}{B:Nat->Prop}{w0:World}{F0:Env P}{S:St}{β:Nat->Option Hd}{F:Nat->Prop}{a:Act}{w:World}{ops:Array Oper}{X:List Nat}
def dE(P:Program)(o:Oper):Bool :=
 match o.op with
 | .call c=>match c.callee with
  | .value _=>match P.underlying o.type with
   | some (.slice _)=>true
   | some (.tuple _)=>true
   | some (.struct _)=>match P.types[o.type]? with
    | some i=>Nat.blt 25 i.size
    | none=>false
   | _=>false
  | _=>false
 | _=>false
def dF(P:Program)(o:Oper):Bool:=Y9 o.op || dE P o
def LM:Row->Bool
 | .vec _ _ _ _ _=>true
 | .nest _ _ _ _ _ _ _ _ _=>true
 | _=>false
def LN(P:Program)(dst:Option Nat)(op:Op)(g:Operand->AV)(K:Out->List Nat->Prop):Prop :=
 match op with
 | .call c=>match c.callee with
  | .value f=>match g f with
   | .fn (.func h) first B2=>match dst with
    | some d=>∃ (row:Row) (res:AV),(PW P h (first++c.args.toList.map g++B2) [] res [row]/\G8 (first++c.args.toList.map g++B2)=true/\LM row=true/\res.under 1=true)/\K ⟨res.ren [d],[(d,row)]⟩ []
    | none=>False
   | _=>False
  | _=>False
 | _=>False
def aw:List Nat->Bool
 | []=>true
 | a :: l=>match fP a l with
  | true=>false
  | false=>aw l
def Row.live:Row->Bool
 | .none=>false
 | _=>true
def wB(ids news:List Nat)(J6:List AV)(ins o9:List Row)(res:AV):Bool :=
 aw (ids++news) && Nat.beq ids.length ins.length && Nat.beq o9.length (ids++news).length && av ids.length J6 && ins.all (fun r=>D9 ids.length r && r.live) && res.under (ids++news).length && o9.all (D9 (ids++news).length)
def Tb:List AV->Bool
 | []=>false
 | a :: l=>match a with
  | .own _=>true
  | _=>Tb l
def LO(b:Bool):List AV->Bool
 | []=>false
 | a :: l=>match a with
  | .ptr _ _ _ _=>true
  | .own _=>match b with
   | true=>true
   | false=>LO b l
  | .agg m=>match b with
   | true=>match Tb m with
    | true=>true
    | false=>LO b l
   | false=>LO b l
  | _=>LO b l
def a0r(P:Program)(t:TypeId):Bool :=
 match P.underlying t with
 | some (.slice _)=>true
 | some (.struct _)=>true
 | some (.tuple _)=>true
 | _=>false
def LP(P:Program)(o:Oper)(g:Operand->AV):Bool :=
 match o.op with
 | .call c=>match c.callee with
  | .value f=>match g f with
   | .fn (.func _) first B2=>LO (a0r P o.type) (first++c.args.toList.map g++B2)
   | _=>false
  | _=>false
 | _=>false
def mh(nw al:Bool)(dst:Option Nat):List Nat :=
 match nw with
 | true=>match al with
  | true=>match dst with
   | some d=>[d]
   | none=>[]
  | false=>[]
 | false=>[]
def LQ(P:Program)(al:Bool)(dst:Option Nat)(op:Op)(g:Operand->AV)(r:Nat->Row)(K:Out->List Nat->Prop):Prop :=
 match op with
 | .call c=>match c.callee with
  | .value f=>match g f with
   | .fn (.func h) first B2=>∃ (nw:Bool) (ids:List Nat) (J6:List AV) (ins o9:List Row) (res:AV),
     (PW P h J6 ins res o9/\first++c.args.toList.map g++B2=au ids J6/\ids.map r=ins.map (A0 ids)/\wB ids (mh nw al dst) J6 ins o9 res=true) /\
     K ⟨res.ren (ids++mh nw al dst),(ids++mh nw al dst).zip (o9.map (A0 (ids++mh nw al dst)))⟩ ids
   | _=>False
  | _=>False
 | _=>False
def Is(P:Program)(o:Oper)(g:Operand->AV)(r:Nat->Row)(K:Out->List Nat->Prop):Prop :=
 match LP P o g with
 | true=>gM P o.dst o.op g r K∨LQ P (dE P o) o.dst o.op g r K
 | false=>match dE P o with
  | true=>gM P o.dst o.op g r K∨LN P o.dst o.op g K
  | false=>gM P o.dst o.op g r K
theorem gP{o:Oper}{g g':Operand->AV}(hg:∀ x ∈ E1 o.op,g' x=g x):LP P o g'=LP P o g:=by
 unfold LP;split
 ·rename_i c bf;split
  ·rename_i f hc;have ef:g' f=g f:=hg f (by simp[E1,Op.operands,Call.operands,bf,hc]);have em:c.args.toList.map g'=c.args.toList.map g:=List.map_congr_left fun x hx=>hg x (by rw[bf];simp only[E1,Op.operands,Call.operands,Array.toList_append];exact List.mem_append_right _ hx)
   rw[ef,em]
  ·rfl
 ·rfl
theorem It{o:Oper}{g:Operand->AV}{r:Nat->Row}{K:Out->List Nat->Prop}(h:Is P o g r K) :
  ∃ out rd,K out rd/\∀ g' r',(∀ x ∈ E1 o.op,g' x=g x)->(∀ i ∈ rd,r' i=r i)->Is P o g' r' (fun o d=>o=out/\d=rd):=by
 unfold Is at h;split at h
 ·rename_i hp;rcases h with h|h
  ·obtain⟨out,rd,h1,h2⟩:=pj h;exact⟨out,rd,h1,fun g' r' hg hr=>by unfold Is;rw[gP hg,hp];exact .inl (h2 g' r' hg hr)⟩
  ·unfold LQ at h;split at h
   ·rename_i c bf;split at h
    ·rename_i f hc;split at h
     ·rename_i gC first B2 Wt
      obtain⟨nw,ids,J6,ins,o9,res,⟨h1,h2,h3,h4⟩,h5⟩:=h;refine⟨_,_,h5,fun g' r' hg hr=>?_⟩;unfold Is;rw[gP hg,hp];refine .inr ?_;have ef:g' f=g f:=hg f (by simp[E1,Op.operands,Call.operands,bf,hc]);have em:c.args.toList.map g'=c.args.toList.map g:=List.map_congr_left fun x hx=>hg x (by rw[bf];simp only[E1,Op.operands,Call.operands,Array.toList_append];exact List.mem_append_right _ hx)
      have er:ids.map r'=ids.map r:=List.map_congr_left fun i hi=>hr i hi
      simp only[LQ,bf,hc,ef,Wt,em];exact⟨nw,ids,J6,ins,o9,res,⟨h1,h2,er.trans h3,h4⟩,rfl,rfl⟩
     ·exact h.elim
    ·exact h.elim
   ·exact h.elim
 ·rename_i hp;split at h
  ·rename_i hn;rcases h with h|h
   ·obtain⟨out,rd,h1,h2⟩:=pj h;exact⟨out,rd,h1,fun g' r' hg hr=>by unfold Is;rw[gP hg,hp,hn];exact .inl (h2 g' r' hg hr)⟩
   ·unfold LN at h;split at h
    ·rename_i c bf;split at h
     ·rename_i f hc;split at h
      ·rename_i gC first B2 Wt
       split at h
       ·rename_i d hd;obtain⟨row,res,h1,h2⟩:=h;refine⟨_,_,h2,fun g' r' hg hr=>?_⟩;unfold Is;rw[gP hg,hp,hn];refine .inr ?_;have ef:g' f=g f:=hg f (by simp[E1,Op.operands,Call.operands,bf,hc]);have em:c.args.toList.map g'=c.args.toList.map g:=List.map_congr_left fun x hx=>hg x (by rw[bf];simp only[E1,Op.operands,Call.operands,Array.toList_append];exact List.mem_append_right _ hx)
        simp only[LN,bf,hc,ef,Wt,hd,em];exact⟨row,res,h1,rfl,trivial⟩
       ·exact h.elim
      ·exact h.elim
     ·exact h.elim
    ·exact h.elim
  ·rename_i hn;obtain⟨out,rd,h1,h2⟩:=pj h;exact⟨out,rd,h1,fun g' r' hg hr=>by unfold Is;rw[gP hg,hp,hn];exact h2 g' r' hg hr⟩
def BN(P:Program)(o:Oper):Bool :=
 match o.op with
 | .call c=>match c.callee with
  | .value (.tmp _)=>dE P o
  | _=>false
 | _=>false
def DZ(P:Program)(X:List Nat)(o:Oper):List Nat :=
 (match dF P o with
 | true=>match o.dst with
  | some d=>[d]
  | none=>[]
 | false=>[])++match X with
  | []=>[]
  | x :: l=>match BN P o with
   | true=>x :: l
   | false=>[]
theorem Qd{o:Oper}{X:List Nat}(ha:dF P o=true){d:Nat}(hd:o.dst=some d):d ∈ DZ P X o:=by
 unfold DZ;rw[ha,hd];simp
theorem rR{o:Oper}{X:List Nat}{d:Nat}(h:d ∈ DZ P X o):(dF P o=true/\o.dst=some d)∨(d ∈ X/\BN P o=true):=by
 unfold DZ at h;rcases List.mem_append.1 h with h|h
 ·split at h
  ·rename_i ha;split at h
   ·rename_i d' hd;obtain rfl:=List.mem_singleton.1 h;exact .inl ⟨ha,hd⟩
   ·cases h
  ·cases h
 ·split at h
  ·cases h
  ·split at h
   ·rename_i hd;exact .inr ⟨h,hd⟩
   ·cases h
def LR(P:Program)(X:List Nat)(o:Oper)(S:St)(out:Out):Prop :=
 ∀ (B:Nat->Prop) (w0:World) (F0:Env P) (β:Nat->Option Hd) (F:Nat->Prop) (a:Act) (w:World) (Q:Exit->Act->World->Prop),Rel B w0 F0 S β F a w->(∀ d ∈ DZ P X o,β d=none) ->
  o.wp P a w (fun a' w'=>∃ β' F',(∀ j,j ∉ DZ P X o->o.dst≠some j->β' j=β j)/\Rel B w0 F0 (S.put o.dst out) β' F' a' w') Q
def Yl(P:Program)(X:List Nat)(o:Oper)(S:St)(out:Out)(rd:List Nat):Prop :=
 ∃ v0,BD v0 out.v/\∀ S':St,(∀ x ∈ E1 o.op,S'.get x=S.get x)->(∀ i ∈ rd,S'.row i=S.row i)->Is P o S'.get S'.row (fun o' d=>o'=⟨v0,out.rows⟩/\d=rd)∨LR P X o S' ⟨v0,out.rows⟩
def Xr(fp:Nat->List Nat×List Nat)(i:Nat)(out:Out)(rd:List Nat):Prop:=(∀ x ∈ rd,x ∈ (fp i).1)/\∀ x ∈ out.rows.map (·.1),x ∈ (fp i).2
def aOp(P:Program)(X:List Nat)(ops:Array Oper)(fp:Nat->List Nat×List Nat)(i:Nat)(K:St->Prop)(S:St):Prop :=
 match ops[i]? with
 | none=>K S
 | some o=>(gw ops S o=some true/\∃ out rd,Yl P X o S out rd/\Xr fp i out rd/\K (S.put o.dst out))∨(gw ops S o=some false/\K (S.put o.dst ⟨.tup [],[]⟩))
def Iu(P:Program)(X:List Nat)(ops:Array Oper)(fp:Nat->List Nat×List Nat)(Q:St->Prop):Nat->Array Bool->St->Prop
 | 0,F5,S=>Region.ready .any ops F5=[]/\Q S
 | fuel+1,F5,S=>(Region.ready .any ops F5=[]->Q S)/\∀ i ∈ Region.ready .any ops F5,aOp P X ops fp i (Iu P X ops fp Q fuel (F5.setIfInBounds i true)) S
def Xs(P:Program)(X:List Nat)(ops:Array Oper)(F5:Array Bool)(β:Nat->Option Hd):Prop:=∀ i o,ops[i]? = some o->F5.getD i true=false->∀ d ∈ DZ P X o,β d=none
theorem Yl.put{o:Oper}{out:Out}{rd:List Nat}(hy:Yl P X o S out rd){dst:Option Nat}{p:Out}(h1:∀ d,dst=some d->d ∉ o.looksAt ops)(h2:∀ i ∈ rd,i ∉ p.rows.map (·.1)):Yl P X o (S.put dst p) out rd:=by
 obtain⟨v0,hf,hy⟩:=hy;refine⟨v0,hf,?_⟩;intro S' hx hr;refine hy S' (fun x Bp => ?_) (fun i hi=>?_)
 ·rw[hx x Bp,yS];intro d hd e;subst e;refine h1 d hd ?_;simp only[Oper.looksAt,List.mem_append,List.mem_filterMap];exact .inl ⟨_,Bp,rfl⟩
 ·rw[hr i hi,GA _ _ _ _ (h2 i hi)]
theorem Yl.unput{o:Oper}{out:Out}{rd:List Nat}{dst:Option Nat}{p:Out}(hy:Yl P X o (S.put dst p) out rd)(h1:∀ d,dst=some d->d ∉ o.looksAt ops)(h2:∀ i ∈ rd,i ∉ p.rows.map (·.1)):Yl P X o S out rd:=by
 obtain⟨v0,hf,hy⟩:=hy;refine⟨v0,hf,?_⟩;intro S' hx hr;refine hy S' (fun x Bp => ?_) (fun i hi=>?_)
 ·rw[hx x Bp,yS];intro d hd e;subst e;refine h1 d hd ?_;simp only[Oper.looksAt,List.mem_append,List.mem_filterMap];exact .inl ⟨_,Bp,rfl⟩
 ·rw[hr i hi,GA _ _ _ _ (h2 i hi)]
theorem yZ{o:Oper}{dst:Option Nat}{p:Out}(h1:∀ d,dst=some d->d ∉ o.looksAt ops):gw ops (S.put dst p) o=gw ops S o:=by
 unfold gw;cases hg:o.guard with
 | none=>rfl
 | some q =>
  obtain⟨j,want⟩:=q;simp only;cases hd:(ops[j]?).bind (·.dst)with
  | none=>rfl
  | some t =>
   simp only;have:(S.put dst p).t.getD t .any=S.t.getD t .any:=by
    simp only[St.put,aC];rw[if_neg];rintro⟨h2,_⟩;refine h1 t h2 ?_;simp[Oper.looksAt,hg,hd]
   rw[this]
inductive pn (P:Program) (X:List Nat) (ops:Array Oper) (fp:Nat->List Nat×List Nat) (i:Nat) (o:Oper) (S:St) (out:Out):Prop
 | run (rd:List Nat) (h1:gw ops S o=some true) (h2:Yl P X o S out rd) (h3:Xr fp i out rd)
 | skip (h1:gw ops S o=some false) (h2:out=⟨.tup [],[]⟩)
theorem pn.aOp{fp:Nat->List Nat×List Nat}{i:Nat}{o:Oper}{out:Out}(hi:ops[i]? = some o)(hd:pn P X ops fp i o S out){K:St->Prop}(h:K (S.put o.dst out)):aOp P X ops fp i K S:=by
 unfold Ev.aOp;simp only[hi];cases hd with
 | run rd h1 h2 h3=>exact .inl ⟨h1,out,rd,h2,h3,h⟩
 | skip h1 h2=>subst h2;exact .inr ⟨h1,h⟩
theorem BO{fp:Nat->List Nat×List Nat}{i:Nat}{o:Oper}(hi:ops[i]? = some o){K:St->Prop}(h:aOp P X ops fp i K S):∃ out,pn P X ops fp i o S out/\K (S.put o.dst out):=by
 unfold aOp at h;simp only[hi]at h;rcases h with ⟨h1,out,rd,h2,h3,h4⟩|⟨h1,h2⟩
 ·exact⟨out,.run rd h1 h2 h3,h4⟩
 ·exact⟨_,.skip h1 rfl,h2⟩
theorem pn.wr{fp:Nat->List Nat×List Nat}{i:Nat}{o:Oper}{out:Out}(h:pn P X ops fp i o S out):∀ x ∈ out.rows.map (·.1),x ∈ (fp i).2:=by
 cases h with
 | run rd h1 h2 h3=>exact h3.2
 | skip h1 h2=>subst h2;simp
def Tc(ops:Array Oper)(fp:Nat->List Nat×List Nat)(i j:Nat)(oi oj:Oper):Prop :=
 oi.apart ops oj=true/\(∀ x ∈ (fp i).2,x ∉ (fp j).1/\x ∉ (fp j).2)/\∀ x ∈ (fp i).1,x ∉ (fp j).2
theorem pn.put{fp:Nat->List Nat×List Nat}{i:Nat}{o:Oper}{out:Out}(h:pn P X ops fp i o S out){dst:Option Nat}{p:Out}(h1:∀ d,dst=some d->d ∉ o.looksAt ops)(h2:∀ x ∈ p.rows.map (·.1),x ∉ (fp i).1):pn P X ops fp i o (S.put dst p) out:=by
 cases h with
 | run rd g1 g2 g3=>exact .run rd ((yZ h1).trans g1) (g2.put h1 fun x hx hp=>h2 x hp (g3.1 x hx)) g3
 | skip g1 g2=>exact .skip ((yZ h1).trans g1) g2
theorem pn.unput{fp:Nat->List Nat×List Nat}{i:Nat}{o:Oper}{out:Out}{dst:Option Nat}{p:Out}(h:pn P X ops fp i o (S.put dst p) out)(h1:∀ d,dst=some d->d ∉ o.looksAt ops)(h2:∀ x ∈ p.rows.map (·.1),x ∉ (fp i).1):pn P X ops fp i o S out:=by
 cases h with
 | run rd g1 g2 g3=>exact .run rd ((yZ h1).symm.trans g1) (g2.unput h1 fun x hx hp=>h2 x hp (g3.1 x hx)) g3
 | skip g1 g2=>exact .skip ((yZ h1).symm.trans g1) g2
def Xt(ops:Array Oper)(oj:Oper)(i:Nat):Prop:=∃ e ∈ oj.after,Region.binds .any e=true/\∃ om,ops[e.on]? = some om/\∃ e' ∈ om.after,Region.binds .any e'=true/\e'.on=i
theorem Ew{fp:Nat->List Nat×List Nat}{Q:St->Prop}{i:Nat}{oi:Oper}{out:Out}(hi:ops[i]? = some oi) :
  ∀ (fuel:Nat) (F5:Array Bool) (S:St),(∀ j oj,ops[j]? = some oj->j≠i->F5.getD j true=false->(∀ e ∈ oj.after,Region.binds .any e=true->e.on≠i)->¬Xt ops oj i->Tc ops fp i j oi oj) ->
   (∀ m om,ops[m]? = some om->F5.getD m false=true->∀ e ∈ om.after,Region.binds .any e=true->e.on≠i) ->
   i ∈ Region.ready .any ops F5->pn P X ops fp i oi S out->Iu P X ops fp Q fuel (F5.setIfInBounds i true) (S.put oi.dst out)->Iu P X ops fp Q (fuel+1) F5 S:=by
 intro fuel
 induction fuel with
 | zero =>
  intro F5 S _ _ hr hy H;refine⟨fun h=>(by rw[h]at hr;cases hr),fun j hj=>?_⟩;by_cases Td:j=i
  ·subst Td;exact hy.aOp hi H
  ·have:=ready_mono hj Td;rw[H.1]at this;cases this
 | succ fuel ih =>
  intro F5 S B1 hG hr hy H;refine⟨fun h=>(by rw[h]at hr;cases hr),fun j hj=>?_⟩;by_cases Td:j=i
  ·subst Td;exact hy.aOp hi H
  ·have h1:=H.2 j (ready_mono hj Td);obtain⟨Xu,oj,Ww,sH⟩:=mem_ready.1 hj;have Xv:∀ e ∈ oj.after,Region.binds .any e=true->e.on≠i:=fun e he hb heq=>by
    have h1:=sH e he hb;have h0:=(mem_ready.1 hr).1;rw[heq]at h1;rcases Nat.lt_or_ge i F5.size with h' | h'
    ·simp[h']at h0 h1;rw[h0]at h1;cases h1
    ·simp[Array.getElem?_eq_none h']at h1
   have a0s:¬Xt ops oj i:=fun⟨e,he,hb,om,Iv,e',he',oV,hx⟩=>hG e.on om Iv (sH e he hb) e' he' oV hx
   obtain⟨hap,hw,Xw⟩:=B1 j oj Ww Td Xu Xv a0s;obtain⟨a1,a2,a3⟩:=Oper.apart_spec hap;obtain⟨a0u,Xx,hK⟩:=BO Ww h1;have a0v:=Xx.unput a1 fun x hx=>(hw x (hy.wr x hx)).1
   refine a0v.aOp Ww ?_;have Ua:∀ k ok,ops[k]? = some ok->k≠i->(F5.setIfInBounds j true).getD k true=false ->
     (∀ e ∈ ok.after,Region.binds .any e=true->e.on≠i)->¬Xt ops ok i->Tc ops fp i k oi ok:=fun k ok hk Lf Pw xa vM=>by
    refine B1 k ok hk Lf ?_ xa vM;by_cases Ub:j=k
    ·subst Ub;exact Xu
    ·rw[getD_set_ne true Ub]at Pw;exact Pw
   have hG':∀ m om,ops[m]? = some om->(F5.setIfInBounds j true).getD m false=true->∀ e ∈ om.after,Region.binds .any e=true->e.on≠i:=fun m om Iv hl e he hb heq=>by
    by_cases hjm:j=m
    ·subst hjm;rw[Ww]at Iv;cases Iv;exact Xv e he hb heq
    ·rw[getD_set_ne false hjm]at hl;exact hG m om Iv hl e he hb heq
   refine ih (F5.setIfInBounds j true) _ Ua hG' (ready_mono hr (Ne.symm Td)) (hy.put a3 fun x hx Bp=>Xw x Bp (Xx.wr x hx)) ?_;rw[Array.setIfInBounds_comm _ _ Td,<- LH S out a0u a2 fun x hx Bp=>(hw x (hy.wr x hx)).2 (Xx.wr x Bp)];exact hK
def BP(ops:List Oper)(cY:List (List Nat×List Nat)):Bool :=
 (List.range ops.length).all fun j=>(List.range ops.length).all fun i=>match Nat.ble j i with
  | true=>true
  | false =>
   match ops[j]? with
   | none=>true
   | some oj=>(oj.after.any fun e=>Region.binds .any e && e.on == i) ||
    ((((cY.getD i ([],[])).2.all fun x => !(cY.getD j ([],[])).1.contains x && !(cY.getD j ([],[])).2.contains x) && (cY.getD i ([],[])).1.all fun x => !(cY.getD j ([],[])).2.contains x) ||
     oj.after.any fun e=>Region.binds .any e && match ops[e.on]? with
      | some om=>om.after.any fun e'=>Region.binds .any e' && e'.on == i
      | none=>false)
inductive qE (P:Program) (X:List Nat) (ops:Array Oper):Nat->List Oper->St->List (List Nat×List Nat)->St->Prop
 | nil (k S):qE P X ops k [] S [] S
 | run {k o l S Sf out rd cY} (h1:gw ops S o=some true) (h2:Yl P X o S out rd) (h3:qE P X ops (k+1) l (S.put o.dst out) cY Sf):qE P X ops k (o :: l) S ((rd,out.rows.map (·.1)) :: cY) Sf
 | skip {k o l S Sf cY} (h1:gw ops S o=some false) (h3:qE P X ops (k+1) l (S.put o.dst ⟨.tup [],[]⟩) cY Sf):qE P X ops k (o :: l) S (([],[]) :: cY) Sf
theorem BQ{fp:Nat->List Nat×List Nat}{Q:St->Prop}(hfp:∀ i j oi oj,ops[i]? = some oi->ops[j]? = some oj->i<j->(∀ e ∈ oj.after,Region.binds .any e=true->e.on≠i)->¬Xt ops oj i->(∀ x ∈ (fp i).2,x ∉ (fp j).1/\x ∉ (fp j).2)/\∀ x ∈ (fp i).1,x ∉ (fp j).2) :
  ∀ (l:List Oper) (k:Nat) (F5:Array Bool) (S:St) (cY:List (List Nat×List Nat)) (Sf:St),(∀ j,l[j]? = ops[k+j]?)->(∀ j,j<k->F5.getD j true=true)->(∀ j,k<=j->F5.getD j false=false)->(∀ m om,m<k->ops[m]? = some om->∀ e ∈ om.after,Region.binds .any e=true->e.on<m)->(∀ j,j<l.length->cY.getD j ([],[])=fp (k+j)) ->
   Region.lexFrom .any ops l.length k F5=true->qE P X ops k l S cY Sf->Q Sf->Iu P X ops fp Q l.length F5 S
 | [],_,_,_,_,_,_,_,_,_,_,hB,h,hQ=>by
  cases h
  exact⟨by simpa[Region.lexFrom]using hB,hQ⟩
 | o :: l,k,F5,S,cY,Sf,hl,hli,rQ,Ws,hf,hB,h,hQ=>by
  have h0:ops[k]? = some o:=by simpa using (hl 0).symm
  simp only[zB2,Region.lexFrom,zA2]at hB;obtain⟨⟨hr,vN⟩,hB'⟩:=hB;have Eo:∀ e ∈ o.after,Region.binds .any e=true->e.on<k:=fun e he hb=>by
   obtain⟨_,o',L0,sH⟩:=mem_ready.1 (by simpa using hr:k ∈ Region.ready .any ops F5);rw[h0]at L0; cases L0
   rcases Nat.lt_or_ge e.on k with h|h
   ·exact h
   ·have h1:=sH e he hb;rw[rQ _ h]at h1;cases h1
  have Te:∀ {out ly},pn P X ops fp k o S out->(∀ j,j<l.length->ly.getD j ([],[])=fp (k+1+j))->qE P X ops (k+1) l (S.put o.dst out) ly Sf->Iu P X ops fp Q (l.length+1) F5 S:=by
   intro out ly hd hf' LS;refine Ew h0 l.length F5 S (fun j oj hj V8 Pw xa vM=>?_) (fun m om Iv Xk e he hb heq=>?_) (by simpa using hr) hd
    (BQ hfp l (k+1) _ _ ly Sf (fun j=>by have:=hl (j+1);simpa[Nat.add_assoc,Nat.add_comm 1 j]using this) (fun j hj=>?_) (fun j hj=>by rw[getD_set_ne false (show k≠j by omega)];exact rQ j va5)
     (fun m om hm Iv=>by
      rcases Nat.lt_or_ge m k with h|h
      ·exact Ws m om h Iv
      ·have:m=k:=by omega
       subst this;rw[h0]at Iv;cases Iv;exact Eo) hf' hB' LS hQ)
   ·have hkj:k<j:=by
     rcases Nat.lt_or_ge k j with h|h
     ·exact h
     ·have:j<k:=by omega
      rw[hli j this]at Pw;cases Pw
    obtain⟨q1,q2⟩:=hfp k j o oj h0 hj hkj xa vM;exact⟨Region.free_spec h0 vN j oj hj V8 Pw xa,q1,q2⟩
   ·rcases Nat.lt_or_ge m k with h|h
    ·have:=Ws m om h Iv e he hb;omega
    ·rw[rQ _ h]at Xk;cases Xk
   ·by_cases e:j=k
    ·subst e;rcases Nat.lt_or_ge j F5.size with h' | h'
     ·simp[h']
     ·simp[Array.getElem?_eq_none,h']
    ·rw[getD_set_ne true (Ne.symm e)];exact hli j va5
  cases h with
  | run h1 h2 h3 =>
   rename_i out rd ly;have e0:=hf 0 va9;simp only[List.getD_cons_zero,Nat.add_zero]at e0;exact Te (.run rd h1 h2 ⟨by rw[<- e0];exact fun x hx=>hx,by rw[<- e0];exact fun x hx=>hx⟩) (fun j hj=>by have:=hf (j+1) (by simpa using hj);simpa[Nat.add_assoc,Nat.add_comm 1 j]using this) h3
  | skip h1 h3 =>
   rename_i ly;exact Te (.skip h1 rfl) (fun j hj=>by have:=hf (j+1) (by simpa using hj);simpa[Nat.add_assoc,Nat.add_comm 1 j]using this) h3
end

end Go.Ev
