/- Helper lemmas. -/
import Derived.Test.YtacahppoighegaaGreatEvNine
import Derived.Maps.RangeRun
import Derived.Maps.Keyed
import Derived.Carry
set_option linter.unusedVariables false
set_option linter.unusedSimpArgs false
/- Default proofs, for a look at what the walks leave (a tool; no claim holds it). -/
namespace Go.Ev
/- Rows of which laws of their own speak. A helper text: it speaks of no program. -/
section
variable {P:Program}{B:Nat->Prop}{w0:World}{F0:Env P}{S:St}{β:Nat->Option Hd}{F:Nat->Prop}{a:Act}{w:World}
theorem Rel.retieV(hR:Rel B w0 F0 S β F a w){d:Nat}(hd:β d=none){cons:List Nat}{dst:Option Nat}{hd':Hd}{r:Row}{w':World}{v:Value}{x:AV}
  (G0:w.heap.size<=w'.heap.size) (lp:w'.os=w.os/\w'.tape=w.tape/\w'.output=w.output)
  (aj:∀ k,k<w.heap.size->(∀ c ∈ cons,S.row c ≠ .none->¬ x7 β c k)->w'.heap[k]? = w.heap[k]?)
  (hb:∀ b,Z1 (some hd') b->b<w'.heap.size/\((∃ c ∈ cons,S.row c ≠ .none/\x7 β c b)∨w.heap.size<=b))
  (hr:∀ β',β' d=some hd'->(∀ j,β j≠none->β' j=β j)->C5 F w w'->y8 β' F w' d r) (rk:∀ l xs k e,r ≠ .ctr l xs k e) (hx:∀ β',β' d=some hd'->C4 β' F w' x v) :
  ∃ β' F',(∀ j,j≠d->β' j=β j)/\Rel B w0 F0 (S.put dst ⟨x,cons.map (fun i=>(i,.none))++[(d,r)]⟩) β' F' (a.put dst v) w':=by
 let β':Nat->Option Hd:=fun j=>if j=d then some hd' else β j
 have h1:β' d=some hd':=by simp[β']
 have h2:∀ j,j≠d->β' j=β j:=fun j hj=>by simp[β',hj]
 have h3:∀ j,β j≠none->β' j=β j:=fun j hj=>h2 j (fun e=>hj (e ▸ hd))
 have b1:∀ b,x7 β' d b↔Z1 (some hd') b:=fun b=>by rw[x7,h1]
 have b2:∀ j b,j≠d->(x7 β' j b↔x7 β j b):=fun j b hj=>by rw[x7,x7,h2 j hj]
 have hk:C5 F w w':=fun k o u hF hc=>by
  rw[World.cell?_of_block (w:=w) (aj k (hR.FB k hF).1 fun c _ hc hb=>hR.bF c k hc hb hF)];exact hc
 have A1:∀ j,(r8 S.h (cons.map (fun i=>(i,.none))++[(d,r)])).getD j .none=if d=j/\d<S.h.length then r else if j ∈ cons then .none else S.row j:=fun j=>by
  rw[X4];simp only[r8,r7,O8,X5];rfl
 have live:∀ j,j≠d->(r8 S.h (cons.map (fun i=>(i,.none))++[(d,r)])).getD j .none ≠ .none->j ∉ cons/\S.row j ≠ .none:=fun j hj hl=>by
  rw[A1,if_neg (fun h=>hj h.1.symm)]at hl;split at hl
  ·exact absurd rfl hl
  ·rename_i hc;exact⟨hc,hl⟩
 refine⟨β',F,h2,hR.step h3 (fun _ h=>h) (fun b hb=>⟨zB5 (hR.FB b hb).1 G0,(hR.FB b hb).2⟩) hk lp G0 (hx β' h1) ?_ ?_ ?_ ?_ (fun k hk hn=>aj k hk fun c _ hc=>hn c hc) ?_ (fun b hb => .inl hb) ?_⟩
 ·intro j;rw[A1];split
  ·rename_i h;obtain⟨rfl,_⟩:=h;exact hr β' h1 h3 hk
  ·split
   ·trivial
   ·rename_i gH rk;by_cases hn:S.row j = .none
    ·rw[hn];trivial
    ·refine(hR.rows j).grow h3 (fun _ h=>h) hk fun b P6=>aj b (hR.bB j b P6).2 fun c hc S9 iC=>?_
     exact rk (hR.inj j c b hn S9 P6 iC ▸ hc)
 ·intro i j b hi hj B3 P6;by_cases e:i=d
  ·by_cases e':j=d
   ·exact e.trans e'.symm
   ·exfalso;subst e;rw[b1]at B3;rw[b2 j _ e']at P6;obtain⟨PN,SZ⟩:=live j e' hj;rcases(hb b B3).2 with ⟨c,hc,S9,iC⟩|h
    ·exact PN (hR.inj c j b S9 SZ iC P6 ▸ hc)
    ·have:=(hR.bB j b P6).2;omega
  ·by_cases e':j=d
   ·exfalso;subst e';rw[b1]at P6;rw[b2 i _ e]at B3;obtain⟨PO,Pu⟩:=live i e hi;rcases(hb b P6).2 with ⟨c,hc,S9,iC⟩|h
    ·exact PO (hR.inj c i b S9 Pu iC B3 ▸ hc)
    ·have:=(hR.bB i b B3).2;omega
   ·rw[b2 i _ e]at B3;rw[b2 j _ e']at P6;exact hR.inj i j b (live i e hi).2 (live j e' hj).2 B3 P6
 ·intro i b hi B3 hF;by_cases e:i=d
  ·subst e;rw[b1]at B3;rcases(hb b B3).2 with ⟨c,hc,S9,iC⟩|h
   ·exact hR.bF c b S9 iC hF
   ·have:=(hR.FB b hF).1;omega
  ·rw[b2 i _ e]at B3;exact hR.bF i b (live i e hi).2 B3 hF
 ·intro i b B3;by_cases e:i=d
  ·subst e;rw[b1]at B3;refine⟨?_,(hb b B3).1⟩;rcases(hb b B3).2 with ⟨c,hc,S9,iC⟩|h
   ·exact(hR.bB c b iC).1
   ·exact hR.BW b h
  ·rw[b2 i _ e]at B3;have:=hR.bB i b B3;exact⟨this.1,zB5 this.2 G0⟩
 ·intro i b hi B3;by_cases e:i=d
  ·subst e;rw[b1]at B3;rcases(hb b B3).2 with ⟨c,_,S9,iC⟩|h
   ·exact .inl ⟨c,S9,iC⟩
   ·exact .inr h
  ·rw[b2 i _ e]at B3;exact .inl ⟨i,(live i e hi).2,B3⟩
 ·intro id l xs k e h;rw[A1]at h;split at h
  ·exact absurd h (rk l xs k e)
  ·split at h
   ·cases h
   ·exact h
theorem Rel.redo(hR:Rel B w0 F0 S β F a w){id:Nat}{hd:Hd}(hβ:β id=some hd)(A5:S.row id ≠ .none){dst:Option Nat}{v:Value}{x:AV}{r:Row}{w':World}(G0:w'.heap.size=w.heap.size)(lp:w'.os=w.os/\w'.tape=w.tape/\w'.output=w.output)
  (aj:∀ k,¬ Z1 (some hd) k->w'.heap[k]? = w.heap[k]?) (hr:y8 β F w' id r) (rk:∀ l xs k e,r ≠ .ctr l xs k e) (hv:C4 β F w' x v):Rel B w0 F0 (S.put dst ⟨x,[(id,r)]⟩) β F (a.put dst v) w':=by
 have hk:C5 F w w':=fun k o u hF hc=>by
  rw[World.cell?_of_block (w:=w) (aj k fun h=>hR.bF id k A5 (by rw[x7,hβ];exact h) hF)];exact hc
 have A1:∀ j,(r8 S.h [(id,r)]).getD j .none=if id=j/\id<S.h.length then r else S.row j:=fun j=>by
  show(S.h.set id r).getD j .none=_
  rw[r7];rfl
 have live:∀ j,(r8 S.h [(id,r)]).getD j .none ≠ .none->S.row j ≠ .none:=fun j h=>by
  rw[A1]at h;split at h
  ·rename_i e;rw[<- e.1];exact A5
  ·exact h
 refine hR.step (fun _ _=>rfl) (fun _ h=>h) (fun b hb=>⟨by rw[G0];exact(hR.FB b hb).1,(hR.FB b hb).2⟩) hk lp (Nat.le_of_eq G0.symm) hv (fun j=>?_) (fun i j b hi hj=>hR.inj i j b (live i hi) (live j hj)) (fun i b hi=>hR.bF i b (live i hi))
  (fun i b hb=>⟨(hR.bB i b hb).1,by rw[G0];exact(hR.bB i b hb).2⟩) (fun b _ hn=>aj b fun h=>hn id A5 (by rw[x7,hβ];exact h)) (fun i b hi hb => .inl ⟨i,live i hi,hb⟩) (fun b hb => .inl hb) (fun oZ l xs k e h=>?_)
 ·rw[A1];split
  ·rename_i e;rw[<- e.1];exact hr
  ·rename_i e;by_cases hj:id=j
   ·have:S.row j = .none:=by
     have hl:¬ id<S.h.length:=fun h=>e ⟨hj,h⟩
     rw[<- hj];show S.h.getD id .none = .none
     simp[List.getD,zA7 (Nat.le_of_not_lt hl)]
    rw[this];trivial
   ·by_cases hn:S.row j = .none
    ·rw[hn];trivial
    ·exact(hR.rows j).grow (fun _ _=>rfl) (fun _ h=>h) hk fun b hb=>aj b fun h=>hj (hR.inj id j b A5 hn (by rw[x7,hβ];exact h) hb)
 ·rw[A1]at h;split at h
  ·exact absurd h (rk l xs k e)
  ·exact h
end
/- Maps from whole numbers to 'true', told exactly: the keys in the order in which they came. A helper text: it speaks of no program. -/
open Go.ChangeMaps (setBlock)
variable {P:Program}{t k e:TypeId}{w:World}
/- Operations on maps, walked by hand. A helper text: it speaks of no program. -/
section
variable {P:Program}{S:St}
end
/- A new map goes into a slice of maps. A helper text: it speaks of no program. -/
section
variable {P:Program}{S:St}
end
/- Rows of which the first elements hold slices of their own, and the others slices that stay: a list that is copied, and then given slices of its own one after the other. A helper text: it speaks of no program. -/
def QN{α:Type}(ys:α->List Int)(d:α)(k:Nat)(ho:Option Nat)(l:List α)(i:Nat):Option (List Int):=if i<l.length/\(i<k/\ho≠some i)then some (ys (l.getD i d))else none
def rz{α:Type}(ty:TypeId)(sz j0:Nat)(G7:TypeId)(d:α)(enc:α->List AV)(ys:α->List Int)(k:Nat)(ho:Option Nat)(l:List α):ZH where
 Φ F hd w:=hd.len=l.length/\((l=[]/\hd.b=none/\hd.cap=0/\hd.m=jr)∨∃ b vs,hd.b=some b/\w.heap[b]? = some (.cells vs ty (0,0))/\l.length<=hd.cap/\hd.cap<=maxLen/\vs.size=hd.cap*sz /\
   (∀ i j,i<l.length->j<sz->(j≠j0∨(k<=i/\ho≠some i))->y6 F w ((enc (l.getD i d)).getD j .any) (vs.getD (i*sz+j) undef)) /\
   (∀ i,iz w G7 (hd.m i) (QN ys d k ho l i) (vs.getD (i*sz+j0) undef))/\(∀ i p c,(hd.m i).1=some c->(hd.m p).1=some c->i=p)/\∀ i c,(hd.m i).1=some c->c≠b)
 st F F' hd w w' hF hw hb h:=by
  obtain⟨h2,h3⟩:=h;refine⟨h2,?_⟩;rcases h3 with h3|⟨b,vs,h4,h5,h6,h7,h8,h9,TC,ZI⟩
  ·exact .inl h3
  ·exact .inr ⟨b,vs,h4,(hb b (A8 h4)).trans h5,h6,h7,h8,fun i j hi hj hn=>(h9 i j hi hj hn).mono hF hw,fun i=>(TC i).same fun c hc=>hb c (aX hc),ZI⟩
 fr F hd w b h hb:=by
  obtain⟨_,h3⟩:=h;rcases h3 with ⟨_,h4,_,hm⟩|⟨b',vs,h4,h5,_,_,_,_,TC,_⟩
  ·rw[gE hm,h4]at hb;cases hb
  ·rcases hb with hb|⟨k,hk⟩
   ·rw[h4]at hb;cases hb;exact⟨_,h5,rfl⟩
   ·obtain⟨us,hu⟩:=(TC k).cells hk;exact⟨_,hu,rfl⟩
section
variable {P:Program}{S:St}{α:Type}{ty:TypeId}{sz j0:Nat}{G7:TypeId}{d:α}{enc:α->List AV}{ys:α->List Int}{l:List α}
theorem QO{β:Nat->Option Hd}{F:Nat->Prop}{w:World}{id:Nat}(h:y8 β F w id (.vec ty sz d enc l)):y8 β F w id (.opq (rz ty sz j0 G7 d enc ys 0 none l)):=by
 obtain⟨hd,h1,h2,h3,h4⟩:=h;refine⟨hd,h1,h3,?_⟩;rcases h4 with ⟨q1,q2,q3⟩|⟨b,vs,q1,q2,q3,q4,q5,q6⟩
 ·exact .inl ⟨q1,q2,q3,h2⟩
 ·refine .inr ⟨b,vs,q1,q2,q3,q4,q5,fun i j hi hj _=>q6 i j hi hj,fun i=>?_,fun i p c hi=>?_,fun i c hi=>?_⟩
  ·have:QN ys d 0 none l i=none:=if_neg (fun h=>absurd h.2.1 (zB3 i));rw[this,h2];rfl
  ·rw[h2]at hi;cases hi
  ·rw[h2]at hi;cases hi
theorem MW{β:Nat->Option Hd}{F:Nat->Prop}{w:World}{id:Nat}(h:y8 β F w id (.opq (rz ty sz j0 G7 d enc ys l.length none l))):y8 β F w id (.nest ty sz j0 G7 d enc ys none l):=by
 obtain⟨hd,h1,h3,h4⟩:=h;refine⟨hd,h1,h3,?_⟩;rcases h4 with h4|⟨b,vs,q1,q2,q3,q4,q5,q6,q7,q8⟩
 ·exact .inl h4
 ·refine .inr ⟨b,vs,q1,q2,q3,q4,q5,fun i j hi hj hn=>q6 i j hi hj (.inl hn),fun i=>?_,q8⟩;have:QN ys d l.length none l i=jh ys d none l i:=by
   unfold QN jh;by_cases e:i<l.length<;>simp[e]
  rw[<- this];exact q7 i
theorem MX{o:Oper}{t e:TypeId}{x y:Operand}{id i k:Nat}(hu:P.underlying t=some (.slice e)){inf:TypeInfo}(hi:P.info? e=some inf)(h1:inf.size=sz)(ho:o.op = .indexAddr t x y)
  (hx:S.get x = .own id) (hr:S.row id = .opq (rz ty sz j0 G7 d enc ys k none l)) (hy:S.get y = .int .i64 i) (hl:i<l.length):iL P o S (fun S'=>S'=S.put o.dst ⟨.ptr id sz i 0,[]⟩):=by
 intro B w0 F0 β F a w Q hR;have qA:=hR.get x;have DW:=hR.get y;rw[hx]at qA;rw[hy]at DW;obtain⟨hd,hβ,hv⟩:=qA.own_inv;have DW:=DW.int_inv;have A1:=hR.rows id;rw[hr]at A1;obtain⟨hd',e1,e2,e7⟩:=A1;rw[hβ]at e1;cases e1
 rcases e7 with ⟨g1,_⟩|⟨b,vs,g1,_⟩
 ·rw[g1]at hl;cases hl
 have L0:execOp a.eval o=(do pure (.value (<- Instr.indexAt t (a.eval x) (a.eval y)))):=by simp[execOp,ho]
 rw[DW,hv,g1,e2]at L0;have K4:(Instr.indexAt t (.slice ((some b).map fun b=>⟨b,0,none⟩) l.length hd.cap) (.int .i64 i)).run P w = .ok (.pointer (some ⟨b,i*sz+0,none⟩)) w:=by
  have h0:(0:Int)<=i:=by omega
  have h2:(i:Int)<(l.length:Nat):=by omega
  simp[Instr.indexAt,run_underlying hu,asIntOf,h0,h2,sizeOf,typeInfo,hi,U3,h1,hl]
 exact N4 (by rw[ho];nofun) (K3 L0 K4 ⟨_,rfl,β,F,hR.still (.ptr hβ g1)⟩)
theorem PW.conv{f:FuncId}{args:List AV}{ins o9:List Row}{res:AV}{r r' s s':Row}{k:Nat}(mT:∀ β F w id,y8 β F w id r->y8 β F w id r')(ju:∀ β F w id,y8 β F w id s'->y8 β F w id s)
  (nr:r ≠ .none) (Zv:r' ≠ .none) (ns:s ≠ .none) (XY:s' ≠ .none) (h:PW P f args (ins.set k r') res (o9.set k s')):PW P f args (ins.set k r) res (o9.set k s):=by
 intro F w vs β hF G0 I8 ho;have hg:∀ (l:List Row) (q:Row) j,(l.set k q).getD j .none=if k=j/\k<l.length then q else l.getD j .none:=fun l q j=>r7 _ _ _ _
 have nn:∀ (l:List Row) (q q':Row) j,q ≠ .none->q' ≠ .none->(l.set k q).getD j .none ≠ .none->(l.set k q').getD j .none ≠ .none:=fun l q q' j _ n2 h=>by
  rw[hg]at h ⊢;split
  ·exact n2
  ·rename_i e;rwa[if_neg e]at h
 obtain⟨h1,h2⟩:=h F w vs β hF G0 (by simpa using I8) ⟨fun j=>by
  have:=ho.rows j;rw[hg]at this ⊢;split
  ·rename_i e;rw[if_pos e]at this;exact mT _ _ _ _ this
  ·rename_i e;rwa[if_neg e]at this,fun i j b hi hj=>ho.inj i j b (nn ins _ _ i Zv nr hi) (nn ins _ _ j Zv nr hj),fun i b hi=>ho.bF i b (nn ins _ _ i Zv nr hi),ho.bB,fun j hj=>ho.dead j (Classical.byContradiction fun hn=>nn ins _ _ j nr Zv hn hj)⟩
 refine⟨h1,h2.mono ?_⟩;rintro e w' ⟨v,β',F',e1,e2,e3,e4,e5,e6,e7,e8,e9,Ll⟩;refine⟨v,β',F',e1,e2,e3,e4,e5,e6,fun j=>?_,fun i j b hi hj=>e8 i j b (nn o9 _ _ i ns XY hi) (nn o9 _ _ j ns XY hj),fun i b hi=>e9 i b (nn o9 _ _ i ns XY hi),Ll⟩;have:=e7 j;rw[hg]at this ⊢;split
 ·rename_i e;rw[if_pos e]at this;exact ju _ _ _ _ this
 ·rename_i e;rwa[if_neg e]at this
theorem PW.o9{f:FuncId}{args:List AV}{ins o9:List Row}{res:AV}{s:Row}{k:Nat}(ju:∀ β F w id,y8 β F w id (o9.getD k .none)->y8 β F w id s)(ns:s ≠ .none)(XY:o9.getD k .none ≠ .none)(h:PW P f args ins res o9):PW P f args ins res (o9.set k s):=by
 intro F w vs β hF G0 I8 ho;have hg:∀ j,(o9.set k s).getD j .none=if k=j/\k<o9.length then s else o9.getD j .none:=fun j=>r7 _ _ _ _
 have nn:∀ j,(o9.set k s).getD j .none ≠ .none->o9.getD j .none ≠ .none:=fun j h=>by
  rw[hg]at h;split at h
  ·rename_i e;rw[<- e.1];exact XY
  ·exact h
 obtain⟨h1,h2⟩:=h F w vs β hF G0 I8 ho;refine⟨h1,h2.mono ?_⟩;rintro e w' ⟨v,β',F',e1,e2,e3,e4,e5,e6,e7,e8,e9,Ll⟩;refine⟨v,β',F',e1,e2,e3,e4,e5,e6,fun j=>?_,fun i j b hi hj=>e8 i j b (nn i hi) (nn j hj),fun i b hi=>e9 i b (nn i hi),Ll⟩;have:=e7 j;rw[hg];split
 ·rename_i e;rw[<- e.1]at this ⊢; exact ju _ _ _ _ this
 ·exact this
def Zw(P:Program)(e:TypeId)(n:Nat):Bool:=match P.info? e with
 | none=>false
 | some i=>Nat.beq i.size n
theorem MZ{e:TypeId}{n:Nat}(h:Zw P e n=true):∃ i,P.info? e=some i/\i.size=n:=by
 unfold Zw at h;split at h
 ·cases h
 ·rename_i i hi;exact⟨i,hi,zA8 h⟩
theorem Ja{o:Oper}{t e:TypeId}{x y:Operand}{id i k:Nat}(hu:P.underlying t=some (.slice e))(hB:Zw P e sz=true)(ho:o.op = .indexAddr t x y)
  (hx:S.get x = .own id) (hr:S.row id = .opq (rz ty sz j0 G7 d enc ys k none l)) (hy:S.get y = .int .i64 i) (hl:i<l.length):iL P o S (fun S'=>S'=S.put o.dst ⟨.ptr id sz i 0,[]⟩):=by
 obtain⟨inf,h1,h2⟩:=MZ hB;exact MX hu h1 h2 ho hx hr hy hl
theorem PW.pick{f:FuncId}{args:List AV}{o9:List Row}{res:AV}(h:PW P f args [] res o9)(hp:o9.all Row.plainR=true)(k:Nat)(hk:k≠0)(A5:o9.getD k .none ≠ .none) :
  PW P f args [] (jP k 0 (G1 0 res)) (yV k 0 (St.kill ⟨[res],o9,.plain⟩ 0)).h:=by
 intro F w vs β hF G0 I8 ho;obtain⟨h1,h2⟩:=h F w vs β hF G0 I8 ho;refine⟨h1,h2.mono ?_⟩;rintro e w' ⟨v,β',F',rfl,hb,Zr,WG,En,hr,A1,js,To,IU⟩
 let S:St:=⟨[res],o9,.plain⟩
 let B:Nat->Prop:=fun b=>(w.heap.size<=b∨jE β b)∨w'.heap.size<=b
 have hR:Rel (P:=P) B w' (Env.plain P F' (fun _=>none) none .plain (fun _=>rfl)) S β' F' { tmps:=#[v],defers:=[] } w':=by
  refine⟨rfl,fun i hi=>?_,⟨[],⟨rfl,fun _=>rfl⟩,List.nodup_nil,fun D hD=>absurd hD va9⟩,fun i=>A1 i,js,To,fun i b hi=>⟨.inl (IU i b hi).2,(IU i b hi).1⟩,fun b hb=>⟨(En b hb).1,.inl hb⟩,H3.refl _ _,fun b hb => .inr hb,fun _ _ h=>(by cases h),fun _ _=>rfl,rfl,fun _ h=>h,C5.refl _ _,fun _ _ _ h _=>h,?_⟩
  ·have e:i=0:=by
    have:i<1:=hi;omega
   subst e;exact hr
  ·intro id l xs k' e he;exfalso;have he:o9.getD id .none = .ctr l xs k' e:=he;by_cases hi:id<o9.length
   ·have m:=List.all_eq_true.1 hp (o9.getD id .none) (by simp only[List.getD,zA6 hi,Option.getD_some];exact List.getElem_mem hi);rw[he]at m;cases m
   ·rw[List.getD,zA7 va5]at he;cases he
 obtain⟨hd,hβk⟩:=(A1 k).some A5;obtain⟨β1,q1,q2,iF⟩:=hR.kill 0 rfl;obtain⟨β2,jO⟩:=iF.moved (t:=0) (id:=k) q1 hk ((q2 k hk).trans hβk) rfl;refine⟨v,β2,F',rfl,hb,fun j mU h2=>(by rw[ho.dead j rfl]at h2;cases h2),WG,fun b hb=>En b hb,?_,fun j=>jO.rows j,jO.inj,jO.bF,fun i b hi=>?_⟩
 ·exact jO.slots 0 (Nat.zero_lt_succ 0)
 ·obtain⟨p1,p2⟩:=jO.bB i b hi;exact⟨p2,p1.elim (fun h=>h) fun h=>by omega⟩
end
/- A list that is copied and then given slices of its own, by calls that are handed a place in it. A helper text: it speaks of no program. -/
section
variable {P:Program}{S:St}{α:Type}{ty:TypeId}{sz j0:Nat}{G7:TypeId}{d:α}{enc:α->List AV}{ys:α->List Int}{l:List α}
def eD{α:Type}(ty:TypeId)(sz j0:Nat)(G7:TypeId)(d:α)(enc:α->List AV)(ys:α->List Int)(Bk:Option Nat)(C:Nat)(k:Nat)(l:List α):ZH where
 Φ F hd w:=(rz ty sz j0 G7 d enc ys k none l).Φ F hd w/\hd.b=Bk/\hd.cap=C
 st F F' hd w w' h1 h2 hb h:=⟨(rz ty sz j0 G7 d enc ys k none l).st F F' hd w w' h1 h2 hb h.1,h.2⟩
 fr F hd w b h hb:=(rz ty sz j0 G7 d enc ys k none l).fr F hd w b h.1 hb
theorem Fa{o:Oper}{t e:TypeId}{x:Operand}{id i k:Nat}{Bk:Option Nat}{C:Nat}(hu:P.underlying t=some (.slice e))(ho:o.op = .load t x)(hx:S.get x = .ptr id sz i j0)(hr:S.row id = .opq (eD ty sz j0 G7 d enc ys Bk C k l))(hi:i<l.length)(hk:k<=i)(hj:j0<sz) :
  iL P o S (fun S'=>S'=S.put o.dst ⟨(enc (l.getD i d)).getD j0 .any,[]⟩):=by
 intro B w0 F0 β F a w Q hR;have qA:=hR.get x;rw[hx]at qA;obtain⟨hd,b,hβ,hb,qA⟩:=qA.ptr_inv;have A1:=hR.rows id;rw[hr]at A1;obtain⟨jv,f1,⟨e2,e7⟩,_⟩:=A1;rw[hβ]at f1;cases f1
 rcases e7 with ⟨g1,_⟩|⟨b',vs,g1,g2,g3,g4,g5,g6,_⟩
 ·rw[g1]at hi;cases hi
 rw[hb]at g1;cases g1
 have z8:=z6 (zB5 hi g3) hj;have H7:=G3 (i:=i*sz+j0) g2 va5;have L0:execOp a.eval o=(do pure (.value (<- Instr.loadAt t (a.eval x)))):=by simp[execOp,ho]
 rw[qA]at L0;have K4:(Instr.loadAt t (.pointer (some ⟨b,i*sz+j0,none⟩))).run P w = .ok (vs.getD (i*sz+j0) undef) w:=by
  simp[Instr.loadAt,Instr.sureAddr,loadVar,isAgg,run_underlying hu,H7]
 exact N4 (by rw[ho];nofun) (K3 L0 K4 ⟨_,rfl,β,F,hR.still (.imm (g6 i j0 hi hj (.inr ⟨hk,by simp⟩)))⟩)
theorem Cs{o:Oper}{t:TypeId}{x y:Operand}{id k e dn:Nat}{zs:List Int}{i:TypeInfo}{Bk:Option Nat}{C:Nat}(L0:o.op = .store t x y)(jR:o.dst=none)(hi:P.info? t=some i)(G0:i.size=1)(XU:A3 S dn=true)(hg:(S.kill dn).get x = .ptr id sz k j0)(LG:(S.kill dn).get y = .own e)
  (hr:(S.kill dn).row id = .opq (eD ty sz j0 G7 d enc ys Bk C k l)) (yQ:(S.kill dn).row e = .vec G7 1 (0:Int) aR zs) (Qa:ys (l.getD k d)=zs) (hj:k<l.length) (mZ:j0<sz) (V8:Nat.beq e id=false) :
  iL P o S (fun S'=>S'=(S.kill dn).put none ⟨.any,[(e,.none),(id,.none),(dn,.opq (eD ty sz j0 G7 d enc ys Bk C (k+1) l))]⟩):=by
 intro B w0 F0 β0 F a w Q WI;obtain⟨β,B1,_,hR⟩:=WI.kill dn (WI.topn dn XU);generalize S.kill dn=S1 at *
 have V8:e≠id:=fun h=>by rw[h,Nat.beq_refl]at V8;cases V8
 have rO:(S1.get y).cells? = some [.own e]:=by rw[LG];rfl
 obtain⟨c1,c2,c3⟩:=cells?_rep (hR.get y) rO;simp only[zB2,List.length_nil,Nat.zero_add]at c1 c2;have cv:=c2 0 va5;simp only[List.getD_cons_zero]at cv;obtain⟨v0,jD⟩:∃ v0,(a.eval y).cells.toList=[v0]:=by
  match hh:(a.eval y).cells.toList,(by simp[c1]:(a.eval y).cells.toList.length=1)with
  | [v0],_=>exact⟨v0,rfl⟩
 have Xj:(a.eval y).cells.getD 0 undef=v0:=by
  have:(a.eval y).cells=#[v0]:=by rw[<- Array.toArray_toList (xs:=(a.eval y).cells),jD]
  rw[this];rfl
 rw[Xj]at cv;obtain⟨Er,Bc,hve⟩:=cv.own_inv;have kD:execOp a.eval o=(do Instr.storeAt t (a.eval x) (a.eval y);pure .skip):=by simp[execOp,L0]
 have hx:=hR.get x;rw[hg]at hx;obtain⟨hd,b,hb,hh,hv⟩:=hx.ptr_inv;rw[hv]at kD;have A1:=hR.rows id;rw[hr]at A1;obtain⟨jv,f1,⟨lI,jL⟩,Ws,Uq⟩:=A1;rw[hb]at f1;cases f1
 rcases jL with ⟨h1,_⟩|⟨b',vs,e1,e2,e3,e4,e5,e6,e7,e8,e9⟩
 ·rw[h1]at hj;cases hj
 rw[hh]at e1;cases e1
 have bC:k*sz+j0+1<=vs.size:=by
  have:(k+1)*sz<=hd.cap*sz:=Nat.mul_le_mul_right sz (zB5 hj e3);rw[Nat.add_mul]at this;rw[e5];omega
 have A5:S1.row id ≠ .none:=by rw[hr];simp
 have Py:hd.m k=(none,0,0):=by
  have:=e7 k;have h0:QN ys d k none l k=none:=if_neg (fun h=>absurd h.2.1 (Nat.lt_irrefl k));rw[h0]at this;exact this
 -- the write
 have K4:=bK (P:=P) hi e2 (v:=a.eval y) (o:=k*sz+j0) (by rw[c1];exact G0.symm) va5 c3;obtain⟨f1,f2,f3⟩:=N2 b vs (x8 vs (k*sz+j0) (a.eval y).cells.toList) ty (0,0) e2;have H7:∀ p q,p<l.length->q<sz->(q≠j0∨p≠k)->(x8 vs (k*sz+j0) (a.eval y).cells.toList).getD (p*sz+q) undef=vs.getD (p*sz+q) undef:=fun p q hp hq mc=>by
  rw[jD,B9 (by simpa using bC),if_neg];simp only[zB2,List.length_nil,Nat.zero_add];rintro⟨q1,q2⟩;have q3:p*sz+q=k*sz+j0:=by omega
  rcases Nat.lt_trichotomy p k with z8|rfl|sJ
  ·have:=z6 z8 hq;omega
  ·rcases mc with h|h
   ·omega
   ·exact h rfl
  ·have:(k+1)*sz<=p*sz:=Nat.mul_le_mul_right sz sJ;rw[Nat.add_mul]at this;omega
 have Ip:∀ p,p≠k->(x8 vs (k*sz+j0) (a.eval y).cells.toList).getD (p*sz+j0) undef=vs.getD (p*sz+j0) undef:=fun p hp =>
  bM e5 e3 hj (by rw[jD];simp only[zB2,List.length_nil];omega) mZ (.inl hp)
 have yG:(x8 vs (k*sz+j0) (a.eval y).cells.toList).size=vs.size:=C0 (by rw[jD];simpa using bC);obtain⟨hle,TZ⟩:=ag hR yQ Bc;have bne:∀ c,Er.b=some c->c≠b/\∀ p,(hd.m p).1≠some c:=fun c hc=>by
  have o1:x7 β e c:=by rw[x7,Bc];exact A8 hc
  have Bq:S1.row e ≠ .none:=by rw[yQ];simp
  refine⟨fun h=>?_,fun p h=>?_⟩
  ·subst h;exact V8 (hR.inj e id c Bq A5 o1 (by rw[x7,hb];exact A8 hh))
  ·exact V8 (hR.inj e id c Bq A5 o1 (by rw[x7,hb];exact aX h))
 -- the row a33 a new a7
 have UJ:S1.row e ≠ .none:=by rw[yQ];simp
 obtain⟨β2,F2,_,gD⟩:=hR.retieV B1 (cons:=[e,id]) (dst:=none) (hd':=hd.setM k (Er.b,Er.len,Er.cap)) (r := .opq (eD ty sz j0 G7 d enc ys Bk C (k+1) l)) (w':=w.setRow b (x8 vs (k*sz+j0) (a.eval y).cells.toList)) (v:=undef) (x := .any)
  (by rw[f1.2.2.2];exact Nat.le_refl _) ⟨f1.1,f1.2.1,f1.2.2.1⟩ (fun p hp hn=>f2 p fun ep=>by subst ep;exact hn id va9 A5 (by rw[x7,hb];exact A8 hh)) (fun c hc=>by
   rw[f1.2.2.2];rcases hc with hc|⟨p,hc⟩
   ·have o1:x7 β id c:=by rw[x7,hb];exact .inl hc
    exact⟨(hR.bB id c o1).2,.inl ⟨id,by simp,A5,o1⟩⟩
   ·by_cases ep:p=k
    ·subst ep;rw[M5]at hc;have o1:x7 β e c:=by rw[x7,Bc];exact A8 hc
     exact⟨(hR.bB e c o1).2,.inl ⟨e,by simp,UJ,o1⟩⟩
    ·rw[I3 ep]at hc;have o1:x7 β id c:=by rw[x7,hb];exact .inr ⟨p,hc⟩
     exact⟨(hR.bB id c o1).2,.inl ⟨id,by simp,A5,o1⟩⟩)
  (fun β' h _ Ze=>by
   refine⟨_,h,⟨lI,.inr ⟨b,_,hh,f3,e3,e4,by rw[yG];exact e5,fun p q hp hq mc=>?_,fun p=>?_,fun p q c hp hq=>?_,fun p c hp=>?_⟩⟩,Ws,Uq⟩
   ·rw[H7 p q hp hq (mc.imp (fun h=>h) fun h=>fun e=>by have:=h.1;omega)];exact(e6 p q hp hq (mc.imp (fun h=>h) fun h=>⟨by have:=h.1;omega,by simp⟩)).mono (fun _ h=>h) Ze
   ·by_cases ep:p=k
    ·subst ep;have h0:QN ys d (p+1) none l p=some (ys (l.getD p d)):=if_pos ⟨hj,Nat.lt_succ_self p,by simp⟩;rw[M5,h0,Qa];have ev:(x8 vs (p*sz+j0) (a.eval y).cells.toList).getD (p*sz+j0) undef=v0:=by
      rw[jD,B9 (by simpa using bC),if_pos ⟨Nat.le_refl _,by simp⟩,Nat.sub_self];rfl
     rw[ev];exact(jN hle TZ hve).same fun c hc=>f2 c (bne c hc).1
    ·have h0:QN ys d (k+1) none l p=QN ys d k none l p:=by
      unfold QN;have:(p<k+1)↔p<k:=by omega
      simp[this]
     rw[I3 ep,h0,Ip p ep];exact(e7 p).same fun c hc=>f2 c (e9 p c hc)
   ·by_cases ep:p=k
    ·by_cases eq:q=k
     ·rw[ep,eq]
     ·subst ep;rw[M5]at hp;rw[I3 eq]at hq;exact absurd hq ((bne c hp).2 q)
    ·by_cases eq:q=k
     ·subst eq;rw[M5]at hq;rw[I3 ep]at hp;exact absurd hp ((bne c hq).2 p)
     ·rw[I3 ep]at hp;rw[I3 eq]at hq;exact e8 p q c hp hq
   ·by_cases ep:p=k
    ·subst ep;rw[M5]at hp;exact(bne c hp).1
    ·rw[I3 ep]at hp;exact e9 p c hp) (fun _ _ _ _ h=>by cases h) (fun _ _ => .imm (.any _))
 refine N4 (by rw[L0];nofun) (iB kD K4 ⟨_,rfl,β2,F2,?_⟩);have LL:a.put o.dst undef=a.put none undef:=by rw[jR]
 rw[LL];exact gD
theorem zL{o:Oper}{t:TypeId}{x y:Operand}{id k e dn:Nat}{zs:List Int}{Bk:Option Nat}{C:Nat}(hB:Zw P t 1=true)(L0:o.op = .store t x y)(jR:o.dst=none)(XU:A3 S dn=true)(hg:(S.kill dn).get x = .ptr id sz k j0)(LG:(S.kill dn).get y = .own e)
  (hr:(S.kill dn).row id = .opq (eD ty sz j0 G7 d enc ys Bk C k l)) (yQ:(S.kill dn).row e = .vec G7 1 (0:Int) aR zs) (Qa:ys (l.getD k d)=zs) (hj:k<l.length) (mZ:j0<sz) (V8:Nat.beq e id=false) :
  iL P o S (fun S'=>S'=(S.kill dn).put none ⟨.any,[(e,.none),(id,.none),(dn,.opq (eD ty sz j0 G7 d enc ys Bk C (k+1) l))]⟩):=by
 obtain⟨inf,h1,h2⟩:=MZ hB;exact Cs L0 jR h1 h2 XU hg LG hr yQ Qa hj mZ V8
theorem Jb{o:Oper}{c:Call}{x:Operand}{t e:TypeId}{id k:Nat}{ho0:Option Nat}(hu:P.underlying t=some (.slice e))(ho:o.op = .call c)(hb:c.callee = .builtin .len)(Tj:c.args.toList=[x])(ht:c.argTypes.toList=[t])(hx:S.get x = .own id)(hr:S.row id = .opq (rz ty sz j0 G7 d enc ys k ho0 l)) :
  iL P o S (fun S'=>S'=S.put o.dst ⟨.int .i64 l.length,[]⟩):=by
 intro B w0 F0 β F a w Q hR;have e1:=jj Tj;have e2:=jj ht;have hs:∀ cs,builtin .len c.argTypes o.type cs (c.args.map a.eval)=(do pure (.value (<- Builtin.len_ #[t] o.type #[a.eval x]))):=fun cs=>by
  rw[e1,e2];simp[builtin]
 have qA:=hR.get x;rw[hx]at qA;obtain⟨hd,hβ,hv⟩:=qA.own_inv;have A1:=hR.rows id;rw[hr]at A1;obtain⟨hd',q1,q2,_⟩:=A1;rw[hβ]at q1;cases q1
 rw[hv,q2]at hs;refine N4 (by rw[ho];nofun) (J5 ho hb hs (v := .int .i64 l.length) (w':=w) ?_ ⟨_,rfl,β,F,hR.still (.imm (.int _ _))⟩);simp[Builtin.len_,run_underlying hu,goInt]
theorem Rel.held2{B:Nat->Prop}{w0:World}{F0:Env P}{β:Nat->Option Hd}{F:Nat->Prop}{a:Act}{w:World}(hR:Rel B w0 F0 S β F a w){id:Nat}{hd hd':Hd}(h0:β id=some hd)(Ia:F0.β id=none)(z8:id<S.h.length)(eb:hd'.b=hd.b)(el:hd'.len=hd.len)(ec:hd'.cap=hd.cap){cons:List Nat}(hc:id ∉ cons)
  {r:Row} (hr:∀ β',β' id=some hd'->(∀ j,j≠id->β' j=β j)->y8 β' F w id r) (rk:∀ l xs k e,r ≠ .ctr l xs k e) (TX:∀ b,Z1 (some hd') b->∃ c ∈ cons,S.row c ≠ .none/\x7 β c b) :
  ∃ β',β' id=some hd'/\(∀ j,j≠id->β' j=β j)/\Rel B w0 F0 ⟨(S.noMem id).t,r8 (S.noMem id).h (cons.map (fun i=>(i,.none))++[(id,r)]),S.n⟩ β' F a w:=by
 let β':Nat->Option Hd:=fun j=>if j=id then some hd' else β j
 have h1:β' id=some hd':=by simp[β']
 have h2:∀ j,j≠id->β' j=β j:=fun j hj=>by simp[β',hj]
 have A1:∀ j,(r8 (S.noMem id).h (cons.map (fun i=>(i,.none))++[(id,r)])).getD j .none=if id=j then r else if j ∈ cons then .none else E9 id (S.row j):=fun j=>by
  rw[X4];simp only[r8,r7,O8,X5];have e:(S.noMem id).h.length=S.h.length:=by simp[St.noMem]
  have e2:(S.noMem id).h.getD j .none=E9 id (S.row j):=bL S id j;rw[e,e2];by_cases hj:id=j<;>simp[hj]
  subst hj;intro hh;omega
 have live:∀ j,j≠id->(r8 (S.noMem id).h (cons.map (fun i=>(i,.none))++[(id,r)])).getD j .none ≠ .none->j ∉ cons/\S.row j ≠ .none:=fun j hj hl=>by
  rw[A1,if_neg (fun h=>hj h.symm)]at hl;split at hl
  ·exact absurd rfl hl
  ·rename_i Io;exact⟨Io,fun e=>hl (fY.2 e)⟩
 have o1:∀ b,x7 β' id b->∃ c ∈ cons,S.row c ≠ .none/\x7 β c b:=fun b hb=>TX b (by rw[x7,h1]at hb;exact hb)
 have o2:∀ j b,j≠id->(x7 β' j b↔x7 β j b):=fun j b hj=>by rw[x7,x7,h2 j hj]
 refine⟨β',h1,h2,hR.trade (by simp[St.noMem]) rfl (fun i hi=>?_) (fun j=>?_) (fun i j b hi hj B3 P6=>?_) (fun i b hi B3=>?_) (fun i b B3=>?_) (fun j mU hj=>?_) (fun j l xs k e h=>?_)⟩
 ·show C4 β' F w ((S.t.map (L8 id)).getD i .any) _
  rw[u0 _ (cL id)];exact(hR.slots i hi).noMem h0 h1 eb el ec fun j hj _=>h2 j hj
 ·show y8 β' F w j ((r8 (S.noMem id).h (cons.map (fun i=>(i,.none))++[(id,r)])).getD j .none)
  rw[A1];split
  ·rename_i e;subst e;exact hr β' h1 h2
  ·split
   ·trivial
   ·rename_i e _;exact iI h0 h1 eb el ec (fun j hj _=>h2 j hj) (Ne.symm e) (hR.rows j)
 ·by_cases e:i=id
  ·by_cases e':j=id
   ·exact e.trans e'.symm
   ·exfalso;subst e;obtain⟨PN,SZ⟩:=live j e' hj;rw[o2 j b e']at P6;obtain⟨c,Io,S9,iC⟩:=o1 b B3;exact PN (hR.inj c j b S9 SZ iC P6 ▸ Io)
  ·obtain⟨PO,Pu⟩:=live i e hi;rw[o2 i b e]at B3;by_cases e':j=id
   ·exfalso;subst e';obtain⟨c,Io,S9,iC⟩:=o1 b P6;exact PO (hR.inj c i b S9 Pu iC B3 ▸ Io)
   ·rw[o2 j b e']at P6;exact hR.inj i j b Pu (live j e' hj).2 B3 P6
 ·by_cases e:i=id
  ·subst e;obtain⟨c,_,S9,iC⟩:=o1 b B3;exact⟨c,S9,iC⟩
  ·rw[o2 i b e]at B3;exact⟨i,(live i e hi).2,B3⟩
 ·by_cases e:i=id
  ·subst e;obtain⟨c,_,_,iC⟩:=o1 b B3;exact⟨c,iC⟩
  ·rw[o2 i b e]at B3;exact⟨i,B3⟩
 ·have:j≠id:=fun e=>by subst e;rw[Ia]at hj;cases hj
  exact(h2 j this).trans (hR.top j mU hj)
 ·replace h:(r8 (S.noMem id).h (cons.map (fun i=>(i,.none))++[(id,r)])).getD j .none = .ctr l xs k e:=h
  rw[A1]at h;split at h
  ·exact absurd h (rk l xs k e)
  ·split at h
   ·cases h
   ·cases hr:S.row j<;>rw[hr]at h<;>simp[E9]at h
    simp[h]
theorem Fb{o:Oper}{c:Call}{f x:Operand}{gC:FuncId}{id k n dd:Nat}(ho:o.op = .call c)(hb:c.callee = .value f)(jR:o.dst=some dd)(hx:c.args.toList=[x])
  (Iw:∀ (Bk:Option Nat) (C:Nat),PW P gC [.ptr 0 sz k 0] [.opq (eD ty sz j0 G7 d enc ys Bk C k l)] (.tup []) [.none,.opq (eD ty sz j0 G7 d enc ys Bk C (k+1) l)])
  (Zb:A3 S n=true) (a09:A3 S id=true) (V8:Nat.beq n id=false) (XZ:Nat.blt n (S.kill n).h.length=true) (hrn:(S.kill n).row n = .none) (hg:(S.kill n).get f = .fn (.func gC) [] []) (rv:(S.kill n).get x = .ptr id sz k 0) (hr:(S.kill n).row id = .opq (rz ty sz j0 G7 d enc ys k none l)) :
  iL P o S (fun S'=>S'=⟨(((S.kill n).noMem id).t.set dd (.tup [])),((S.kill n).noMem id).h.set id (.opq (rz ty sz j0 G7 d enc ys (k+1) none l)),S.n⟩):=by
 intro B w0 F0 β0 F a w Q WI;have V8:n≠id:=fun h=>by rw[h,Nat.beq_refl]at V8;cases V8
 obtain⟨β,B1,_,hR⟩:=WI.kill n (WI.topn n Zb);have hF0:=WI.topn id a09;have en:(S.kill n).n=S.n:=rfl;have XZ:n<(S.kill n).h.length:=Nat.le_of_ble_eq_true XZ;generalize S.kill n=S1 at *
 have A5:S1.row id ≠ .none:=by rw[hr];simp
 have z8:=fQ A5;have A1:=hR.rows id;rw[hr]at A1;obtain⟨hd,hβ,hΦ⟩:=A1;have iF:=hR.redo (dst:=none) (v:=undef) (x := .any) (r := .opq (eD ty sz j0 G7 d enc ys hd.b hd.cap k l)) (w':=w) hβ A5 rfl ⟨rfl,rfl,rfl⟩ (fun _ _=>rfl) ⟨hd,hβ,hΦ,rfl,rfl⟩ (fun _ _ _ _ h=>by cases h) (.imm (.any _));have Et:∀ j,(S1.put none ⟨.any,[(id,.opq (eD ty sz j0 G7 d enc ys hd.b hd.cap k l))]⟩).row j=if id=j then .opq (eD ty sz j0 G7 d enc ys hd.b hd.cap k l)else S1.row j:=fun j=>by
  show(r8 S1.h [(id,_)]).getD j .none=_
  simp only[r8,r7];by_cases ep:id=j
  ·subst ep;simp[z8]
  ·simp[ep];rfl
 have ha:a.put none undef=a:=rfl;rw[ha]at iF;generalize Zx:S1.put none ⟨.any,[(id,.opq (eD ty sz j0 G7 d enc ys hd.b hd.cap k l))]⟩=S2 at iF Et;have t2:S2.t=S1.t:=by rw[<- Zx];rfl
 have g2:∀ y,S2.get y=S1.get y:=fun y=>by rw[<- Zx];exact yS S1 none _ y (fun _ h=>by cases h)
 have h2:S2.h=S1.h.set id (.opq (eD ty sz j0 G7 d enc ys hd.b hd.cap k l)):=by rw[<- Zx];rfl
 have n2:S2.n=S1.n:=by rw[<- Zx];rfl
 have T1:([]:List AV)++c.args.toList.map S2.get++[]=au [id] [.ptr 0 sz k 0]:=by
  rw[hx];show [S2.get x]++[]=_
  rw[g2,rv];rfl
 have jS:[id].map S2.row=[Row.opq (eD ty sz j0 G7 d enc ys hd.b hd.cap k l)].map (A0 [id]):=by
  show [S2.row id]=_
  rw[Et,if_pos rfl];rfl
 have Lg:wB [id] [n] [.ptr 0 sz k 0] [.opq (eD ty sz j0 G7 d enc ys hd.b hd.cap k l)] [.none,.opq (eD ty sz j0 G7 d enc ys hd.b hd.cap (k+1) l)] (.tup [])=true:=by
  have e:Nat.beq id n=false:=by
   cases h:Nat.beq id n with
   | false=>rfl
   | true=>exact absurd (zA8 h).symm V8
  simp[wB,aw,fP,e];exact⟨⟨⟨rfl,rfl,rfl⟩,rfl⟩,rfl,rfl⟩
 refine N4 (by rw[ho];nofun) (Oper.wp_mono ?_ (iR iF ho hb ((g2 f).trans hg) (ids:=[id]) (news:=[n]) (fun d hd=>by rw[List.mem_singleton]at hd;rw[hd];exact B1) (Iw hd.b hd.cap) T1 jS Lg));rintro a' w' ⟨β',F',gD,ju,_⟩;have b1:β' id=some hd:=(ju id (.inr (by rw[hβ];simp))).trans hβ;have Iq:∀ j,(S2.put o.dst ⟨(AV.tup []).ren ([id]++[n]),([id]++[n]).zip ([Row.none,.opq (eD ty sz j0 G7 d enc ys hd.b hd.cap (k+1) l)].map (A0 ([id]++[n])))⟩).row j=if n=j/\n<S1.h.length then .opq (eD ty sz j0 G7 d enc ys hd.b hd.cap (k+1) l)else if id=j then .none else S1.row j:=fun j=>by
  show(r8 S2.h [(id,.none),(n,.opq _)]).getD j .none=_
  simp only[r8,r7,List.length_set,h2];by_cases e1:n=j/\n<S1.h.length
  ·rw[if_pos e1,if_pos e1]
  ·rw[if_neg e1,if_neg e1];by_cases e2:id=j
   ·subst e2;simp[z8]
   ·simp[e2];rfl
 have Tq:=gD.rows n;rw[Iq,if_pos ⟨rfl,XZ⟩]at Tq;obtain⟨hd',mb,hΦ',oV,hc'⟩:=Tq;have a1a:hd.len=l.length:=hΦ.1;have a1b:hd'.len=l.length:=hΦ'.1;have UK:(S2.put o.dst ⟨(AV.tup []).ren ([id]++[n]),([id]++[n]).zip ([Row.none,.opq (eD ty sz j0 G7 d enc ys hd.b hd.cap (k+1) l)].map (A0 ([id]++[n])))⟩).h.length=S1.h.length:=by
  show(r8 S2.h [(id,.none),(n,.opq _)]).length=_
  simp[r8,h2]
 have tS:(S2.put o.dst ⟨(AV.tup []).ren ([id]++[n]),([id]++[n]).zip ([Row.none,.opq (eD ty sz j0 G7 d enc ys hd.b hd.cap (k+1) l)].map (A0 ([id]++[n])))⟩).t=S1.t.set dd (.tup []):=by
  rw[jR];show S2.t.set dd _=_
  rw[t2];rfl
 have nS:(S2.put o.dst ⟨(AV.tup []).ren ([id]++[n]),([id]++[n]).zip ([Row.none,.opq (eD ty sz j0 G7 d enc ys hd.b hd.cap (k+1) l)].map (A0 ([id]++[n])))⟩).n=S1.n:=by
  show S2.n=_
  exact n2
 generalize S2.put o.dst ⟨(AV.tup []).ren ([id]++[n]),([id]++[n]).zip ([Row.none,.opq (eD ty sz j0 G7 d enc ys hd.b hd.cap (k+1) l)].map (A0 ([id]++[n])))⟩=S3 at gD Iq UK tS nS;have Ya:S3.row n ≠ .none:=by rw[Iq,if_pos ⟨rfl,XZ⟩];simp
 obtain⟨β2,g3,g4,oX⟩:=gD.held2 b1 hF0 (by rw[UK];exact z8) (hd':=hd') oV (a1b.trans a1a.symm) hc' (cons:=[n]) (by simp[Ne.symm V8]) (r := .opq (rz ty sz j0 G7 d enc ys (k+1) none l)) (fun β' h _=>⟨hd',h,hΦ'⟩) (fun _ _ _ _ h=>by cases h)
  (fun c hc=>⟨n,by simp,Ya,by rw[x7,mb];exact hc⟩)
 refine⟨_,rfl,β2,F',oX.forget ?_ (by rw[nS];exact en.symm) fun p => .inl ?_⟩
 ·show((S1.t.map (L8 id)).set dd (.tup []))=S3.t.map (L8 id)
  rw[tS,List.map_set];rfl
 ·have lN:(S3.noMem id).h.length=S1.h.length:=by simp[St.noMem,UK]
  have lM:(S1.noMem id).h.length=S1.h.length:=by simp[St.noMem]
  show((S1.noMem id).h.set id _).getD p .none=(r8 (S3.noMem id).h [(n,.none),(id,_)]).getD p .none
  have r3:(S3.noMem id).h.getD p .none=E9 id (S3.row p):=bL S3 id p;have r1:(S1.noMem id).h.getD p .none=E9 id (S1.row p):=bL S1 id p;simp only[r8,r7,List.length_set,lN,lM,r3,r1,Iq];by_cases e2:id=p
  ·simp[e2];subst e2;simp[z8]
  ·simp only[e2,false_and,if_false];by_cases e1:n=p
   ·subst e1;simp[XZ,hrn,E9]
   ·simp[e1]
end
/- A call that makes several rows where an order is drawn. A helper text: it speaks of no program. -/
section
variable {P:Program}{S:St}
theorem Jc{X:List Nat}{o:Oper}{c:Call}{f:Operand}(ho:o.op = .call c)(hb:c.callee = .value f){gC:FuncId}{first B2:List AV}{ids news:List Nat}{J6:List AV}{ins o9:List Row}{res:AV}(Iw:PW P gC J6 ins res o9)(Lg:wB ids news J6 ins o9 res=true)
  (hn:news.all (fun d=>fP d (DZ P X o))=true) (hg:S.get f = .fn (.func gC) first B2) (T1:first++c.args.toList.map S.get++B2=au ids J6) (jS:ids.map S.row=ins.map (A0 ids)) :
  LR P X o S ⟨res.ren (ids++news),(ids++news).zip (o9.map (A0 (ids++news)))⟩:=by
 intro B w0 F0 β F a w Q hR B1;have SY:∀ d ∈ news,d ∈ DZ P X o:=fun d hd=>nA.1 (List.all_eq_true.1 hn d hd)
 refine Oper.wp_mono ?_ (iR hR ho hb hg (news:=news) (fun d hd=>B1 d (SY d hd)) Iw T1 jS Lg);rintro a' w' ⟨β',F',M8,ju,A5⟩;refine⟨β',F',fun j hj _=>ju j ?_,M8⟩;by_cases hm:j ∈ ids++news
 ·rcases List.mem_append.1 hm with hm|hm
  ·obtain⟨k,hk,e⟩:=List.getElem_of_mem hm;have:=A5 k hk;rw[List.getD,zA6 hk,Option.getD_some,e]at this;exact .inr this
  ·exact absurd (SY j hm) hj
 ·exact .inl hm
theorem dS{X:List Nat}{o:Oper}{c:Call}{f:Operand}{gC:FuncId}{first B2:List AV}{ids news:List Nat}{J6:List AV}{ins o9:List Row}{res:AV}(Iw:PW P gC J6 ins res o9)(ho:o.op = .call c)(hb:c.callee = .value f)
  (hg:S.get f = .fn (.func gC) first B2) (T1:first++c.args.toList.map S.get++B2=au ids J6) (jS:ids.map S.row=ins.map (A0 ids)) (Lg:wB ids news J6 ins o9 res=true) (hn:news.all (fun d=>fP d (DZ P X o))=true) :
  ∀ S':St,(∀ x ∈ E1 o.op,S'.get x=S.get x)->(∀ i ∈ ids,S'.row i=S.row i)->LR P X o S' ⟨res.ren (ids++news),(ids++news).zip (o9.map (A0 (ids++news)))⟩:=by
 intro S' q1 q2;have ef:S'.get f=S.get f:=q1 f (by rw[ho];simp[E1,Op.operands,Call.operands,hb]);have em:c.args.toList.map S'.get=c.args.toList.map S.get:=List.map_congr_left fun x hx=>q1 x (by rw[ho];simp only[E1,Op.operands,Call.operands,Array.toList_append];exact List.mem_append_right _ hx)
 have er:ids.map S'.row=ids.map S.row:=List.map_congr_left fun i hi=>q2 i hi
 exact Jc ho hb Iw Lg hn (ef.trans hg) (by rw[em];exact T1) (er.trans jS)
end

end Go.Ev
