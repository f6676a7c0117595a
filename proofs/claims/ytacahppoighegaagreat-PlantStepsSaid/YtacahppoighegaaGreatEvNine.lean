/- Helper lemmas. -/
import Derived.Test.YtacahppoighegaaGreatEvTen
set_option linter.unusedVariables false
set_option linter.unusedSimpArgs false
/- A call's result may be read more weakly. A helper text: it speaks of no program. -/
namespace Go.Ev
def jw(a b:AV):Prop:=∀ (β:Nat->Option Hd) (F:Nat->Prop) (w:World) (v:Value),C4 β F w a v->C4 β F w b v
theorem jw.refl(a:AV):jw a a:=fun _ _ _ _ h=>h
theorem jw.nils{α:Type}(sz:Nat)(d:α)(enc:α->List AV):jw .nils (.sl sz d enc []):=fun β F w v h=>by
 cases h with
 | imm h=>cases h;exact .imm .slnil
theorem jw.ff:jw .ff (.bool false):=fun β F w v h=>by
 cases h with
 | imm h=>cases h;exact .imm (.bool _)
theorem bR{xs ys:List AV}(hl:xs.length=ys.length)(h:∀ i,i<xs.length->jw (xs.getD i .any) (ys.getD i .any)):jw (.agg xs) (.agg ys)/\jw (.tup xs) (.tup ys):=by
 constructor
 ·intro β F w v r;cases r with
  | imm r =>
   cases r with
   | agg mS k=>exact .agg (hl ▸ mS) fun i hi=>h i (hl ▸ hi) _ _ _ _ (.imm (k i (hl ▸ hi)))
  | agg mS k=>exact .agg (hl ▸ mS) fun i hi=>h i (hl ▸ hi) _ _ _ _ (k i (hl ▸ hi))
 ·intro β F w v r;cases r with
  | imm r =>
   cases r with
   | tup mS k=>exact .tup (hl ▸ mS) fun i hi=>h i (hl ▸ hi) _ _ _ _ (.imm (k i (hl ▸ hi)))
  | tup mS k=>exact .tup (hl ▸ mS) fun i hi=>h i (hl ▸ hi) _ _ _ _ (k i (hl ▸ hi))
theorem PW.sub{P:Program}{f:FuncId}{args:List AV}{ins o9:List Row}{res Mn:AV}(h:PW P f args ins res o9)(hr:jw res Mn):PW P f args ins Mn o9:=by
 intro F w vs β hF G0 I8 ho;obtain⟨h1,h2⟩:=h F w vs β hF G0 I8 ho;refine⟨h1,h2.mono ?_⟩;rintro e w' ⟨v,β',F',e1,e2,e3,e4,e5,e6,e7⟩;exact⟨v,β',F',e1,e2,e3,e4,e5,hr _ _ _ _ e6,e7⟩
theorem PW.rows{P:Program}{f:FuncId}{args:List AV}{ins o9 Tp:List Row}{res:AV}(h:PW P f args ins res o9)(he:∀ k,Tp.getD k .none=o9.getD k .none):PW P f args ins res Tp:=by
 intro F w vs β hF G0 I8 ho;obtain⟨h1,h2⟩:=h F w vs β hF G0 I8 ho;refine⟨h1,h2.mono ?_⟩;rintro e w' ⟨v,β',F',e1,e2,e3,e4,e5,e6,e7,e8,e9,Ll⟩;exact⟨v,β',F',e1,e2,e3,e4,e5,e6,fun k=>by rw[he];exact e7 k,fun i j b hi hj=>by rw[he]at hi hj;exact e8 i j b hi hj,fun i b hi=>by rw[he]at hi;exact e9 i b hi,Ll⟩
theorem PW.shut{P:Program}{f:FuncId}{args:List AV}{ins o9:List Row}{res:AV}(h:PW P f args ins res o9)(k n:Nat)(hp:(o9.getD k .none).plainR=true) :
  PW P f args ins (E3 n (fun i=>(List.replicate k Row.none++[o9.getD k .none]).getD i .none) res) (o9.set k .none):=by
 intro F w vs β hF G0 I8 ho;obtain⟨h1,h2⟩:=h F w vs β hF G0 I8 ho;refine⟨h1,h2.mono ?_⟩;rintro e w' ⟨v,β',F',rfl,hb,Zr,WG,En,hr,A1,js,To,IU⟩
 let S:St:=⟨[],List.replicate k Row.none++[o9.getD k .none],.plain⟩
 have hS:∀ i,S.row i=if i=k then o9.getD k .none else .none:=fun i=>by
  show(List.replicate k Row.none++[o9.getD k .none]).getD i .none=_
  simp only[List.getD];by_cases e:i<k
  ·rw[List.getElem?_append_left (by simpa using e),List.getElem?_replicate,if_pos e,if_neg va5];rfl
  ·rw[List.getElem?_append_right (by simpa using e)];by_cases e2:i=k
   ·subst e2;simp
   ·rw[if_neg e2,zA7 (by simp;omega)];rfl
 have only:∀ {i},S.row i ≠ .none->i=k:=fun {i} q=>Decidable.byContradiction fun e=>q (by rw[hS,if_neg e])
 have at':S.row k=o9.getD k .none:=by rw[hS,if_pos rfl]
 have hR:Rel (P:=P) (fun _=>True) w' (Env.plain P F' β' none .plain (fun _=>rfl)) S β' F' { tmps:=#[],defers:=[] } w':=by
  refine⟨rfl,fun i hi=>absurd hi (zB3 i),⟨[],⟨rfl,fun _=>rfl⟩,List.nodup_nil,fun D hD=>absurd hD va9⟩,fun i=>?_,?_,?_,fun i b hi=>⟨trivial,(IU i b hi).1⟩,fun b hb=>⟨(En b hb).1,.inr trivial⟩,H3.refl _ _,fun _ _=>trivial,fun _ _ h=>h,?_,rfl,fun _ h=>h,C5.refl _ _,fun _ _ _ h _=>h,?_⟩
  ·rw[hS];by_cases e:i=k
   ·rw[if_pos e,e];exact A1 k
   ·rw[if_neg e];trivial
  ·intro i j b hi hj _ _;rw[only hi,only hj]
  ·intro i b hi hb;obtain rfl:=only hi;rw[at']at hi;exact To i b hi hb
  ·intro j hj;exact(Bool.noConfusion (show false=true from hj))
  ·intro id l xs k' e he;exfalso;have V8:S.row id ≠ .none:=by rw[he];exact fun q=>by cases q
   obtain rfl:=only V8;rw[at']at he;rw[he]at hp;cases hp
 have live:∀ b,mY S β' b->o9.getD k .none ≠ .none/\x7 β' k b:=fun b ⟨i,hi,hb⟩=>by
  obtain rfl:=only hi;rw[at']at hi;exact⟨hi,hb⟩
 have gs:∀ j,(o9.set k .none).getD j .none=if j=k then .none else o9.getD j .none:=fun j=>by
  simp only[List.getD,List.getElem?_set];by_cases e:k=j
  ·subst e;rw[if_pos rfl,if_pos rfl];by_cases q:k<o9.length
   ·rw[if_pos q];rfl
   ·rw[if_neg q];rfl
  ·rw[if_neg e,if_neg (fun q=>e q.symm)]
 have gn:∀ j,(o9.set k .none).getD j .none ≠ .none->j≠k/\o9.getD j .none ≠ .none:=fun j q=>by
  rw[gs]at q;by_cases e:j=k
  ·rw[if_pos e]at q;exact absurd rfl q
  ·rw[if_neg e]at q;exact⟨e,q⟩
 refine⟨v,β',fun b=>F' b∨mY S β' b,rfl,hb,Zr,fun b hb => .inl (WG b hb),?_,.imm (F9 hR n hr),fun j=>?_,?_,?_,IU⟩
 ·rintro b (hb|hb)
  ·exact En b hb
  ·obtain⟨_,hb⟩:=live b hb;obtain⟨q1,q2⟩:=IU k b hb;exact⟨q1,.inr q2⟩
 ·rw[gs];by_cases e:j=k
  ·rw[if_pos e];trivial
  ·rw[if_neg e];exact y8.grow (F:=F') (fun _ _=>rfl) (fun b h=>Or.inl h) (C5.refl _ _) (fun _ _=>rfl) (A1 j)
 ·intro i j b hi hj;exact js i j b (gn i hi).2 (gn j hj).2
 ·rintro i b hi hb (hf|hf)
  ·exact To i b (gn i hi).2 hb hf
  ·obtain⟨q1,q2⟩:=live b hf;exact(gn i hi).1 (js i k b (gn i hi).2 q1 hb q2)
def Ha(a b:AV):Prop:=∀ (β:Nat->Option Hd) (F:Nat->Prop) (w:World) (v:Value),C4 β F w a v->y6 F w b v
theorem Ha.int(k:IntKind)(n:Int):Ha (.int k n) (.int k n):=fun β F w v h=>by
 cases h with
 | imm h=>exact h
theorem Ha.nils{α:Type}(sz:Nat)(d:α)(enc:α->List AV):Ha .nils (.sl sz d enc []):=fun β F w v h=>by
 cases h with
 | imm h=>cases h;exact .slnil
/- Some of the rows that a call hands back, read as memory that stays; the others stay rows. A helper text: it speaks of no program. -/
theorem PW.frz{P:Program}{f:FuncId}{args:List AV}{ins o9:List Row}{res:AV}(h:PW P f args ins res o9)(s:Nat->Bool)(hp:o9.all Row.plainR=true) :
  PW P f args ins (lx 4 s (fun i=>o9.getD i .none) res) (fB s (fun i=>o9.getD i .none) 0 o9):=by
 intro F w vs β hF G0 I8 ho;obtain⟨h1,h2⟩:=h F w vs β hF G0 I8 ho;refine⟨h1,h2.mono ?_⟩;rintro e w' ⟨v,β',F',rfl,hb,Zr,WG,En,hr,A1,js,To,IU⟩
 let S:St:=⟨[res],o9,.plain⟩
 let B:Nat->Prop:=fun b=>(w.heap.size<=b∨jE β b)∨w'.heap.size<=b
 have hR:Rel (P:=P) B w' (Env.plain P F' (fun _=>none) none .plain (fun _=>rfl)) S β' F' { tmps:=#[v],defers:=[] } w':=by
  refine⟨rfl,fun i hi=>?_,⟨[],⟨rfl,fun _=>rfl⟩,List.nodup_nil,fun D hD=>absurd hD va9⟩,fun i=>A1 i,js,To,fun i b hi=>⟨.inl (IU i b hi).2,(IU i b hi).1⟩,fun b hb=>⟨(En b hb).1,.inl hb⟩,H3.refl _ _,fun b hb => .inr hb,fun _ _ h=>(by cases h),fun _ _=>rfl,rfl,fun _ h=>h,C5.refl _ _,fun _ _ _ h _=>h,?_⟩
  ·have e:i=0:=by
    have:i<1:=hi;omega
   subst e;exact hr
  ·intro id l xs k' e he;exfalso;have he:o9.getD id .none = .ctr l xs k' e:=he;by_cases hi:id<o9.length
   ·have m:=List.all_eq_true.1 hp (o9.getD id .none) (by simp only[List.getD,zA6 hi,Option.getD_some];exact List.getElem_mem hi);rw[he]at m;cases m
   ·rw[List.getD,zA7 va5]at he;cases he
 obtain⟨Im,M8⟩:=hR.freeze s;refine⟨v,β',Im,rfl,hb,Zr,fun b hb=>M8.inc b (WG b hb),fun b hb=>?_,?_,fun k=>M8.rows k,M8.inj,M8.bF,IU⟩
 ·obtain⟨q1,q2⟩:=M8.FB b hb;refine⟨q1,?_⟩;rcases q2 with q2|(q2|q2)
  ·exact(En b q2).2
  ·exact .inr q2
  ·omega
 ·exact M8.slots 0 (Nat.zero_lt_succ 0)
/- A call that hands back a value, as a call that takes over rows. A helper text: it speaks of no program. -/
theorem PC.toPW{P:Program}{f:FuncId}{fn:Func}{c:Code}{args J6:List AV}{res:AV}{ins:List Row}(h:PC P f args res)(hf:P.funcs[f]? = some fn)(J7:(fn.name == "runtime.NumGoroutine")=false) (hb:fn.body=some c)
  (hp:ins.all Row.plainR=true) (ha:J6.map (E3 4 fun i=>ins.getD i .none)=args):PW P f J6 ins res (ins.map fun _ => .none):=by
 intro F w vs β hF G0 I8 ho
 let S:St:=⟨[],ins,.plain⟩
 have hR:Rel (P:=P) (fun _=>True) w (Env.plain P F β none .plain (fun _=>rfl)) S β F { tmps:=#[],defers:=[] } w:=by
  refine⟨rfl,fun i hi=>absurd hi (zB3 i),⟨[],⟨rfl,fun _=>rfl⟩,List.nodup_nil,fun D hD=>absurd hD va9⟩,ho.rows,ho.inj,ho.bF,fun i b hi=>⟨trivial,ho.bB i b hi⟩,fun b hb=>⟨hF b hb,.inr trivial⟩,H3.refl _ _,fun _ _=>trivial,fun _ _ h=>h,?_,rfl,fun _ h=>h,C5.refl _ _,fun _ _ _ h _=>h,?_⟩
  ·intro j hj;exact(Bool.noConfusion (show false=true from hj))
  ·intro id l xs k e he;exfalso;have he:ins.getD id .none = .ctr l xs k e:=he;by_cases hi:id<ins.length
   ·have hm:ins.getD id .none ∈ ins:=by simp only[List.getD,zA6 hi,Option.getD_some];exact List.getElem_mem hi
    have:=List.all_eq_true.1 hp _ hm;rw[he]at this;cases this
   ·rw[List.getD,zA7 va5]at he;cases he
 have S9:∀ i,i<args.length->y6 (fun b=>F b∨∃ i,S.row i ≠ .none/\x7 β i b) w (args.getD i .any) (vs.getD i undef):=fun i hi=>by
  rw[<- ha,u0 _ (L1 4 _)];exact F9 hR 4 (I8 i (by rw[<- ha,List.length_map]at hi;exact hi))
 have z8:∀ b,(F b∨∃ i,S.row i ≠ .none/\x7 β i b)->b<w.heap.size:=fun b hb=>by
  rcases hb with hb|⟨i,_,hi⟩
  ·exact hF b hb
  ·exact ho.bB i b hi
 have EW:=Go.MuLone.run_callFunc_enter hf J7 hb vs w;refine⟨EW,?_⟩;have jM:vs.size=args.length:=by rw[G0,<- ha,List.length_map]
 rcases h _ w vs z8 jM S9 with ⟨_,h2⟩|⟨v,h1,_⟩
 ·refine h2.mono ?_;rintro e w' ⟨v,rfl,V9,hr⟩;refine⟨v,β,fun b=>(F b∨∃ i,S.row i ≠ .none/\x7 β i b)∨(w.heap.size<=b/\b<w'.heap.size),rfl,⟨V9.os,V9.tape,V9.output,V9.size,fun k hk=>V9.block k (Nat.lt_of_not_le fun q=>hk (.inl q))⟩,fun k hd hk=>hk,fun b hb => .inl (.inl hb),?_,?_,?_,?_,?_,?_⟩
  ·intro b hb;rcases hb with hb|⟨h1,h2⟩
   ·refine⟨zB5 (z8 b hb) V9.size,?_⟩;rcases hb with hb|⟨i,_,hi⟩
    ·exact .inl hb
    ·exact .inr (.inr ⟨i,hi⟩)
   ·exact⟨h2,.inr (.inl h1)⟩
  ·refine .imm (hr.there.mono (fun b hb=>?_) (fun _ _ _ _ h=>h));obtain⟨h1|h1,h2⟩:=hb
   ·exact .inl h1
   ·exact .inr ⟨h1,h2⟩
  ·intro k;have:(ins.map fun _=>Row.none).getD k .none = .none:=by
    simp only[List.getD,List.getElem?_map];cases ins[k]? <;> rfl
   rw[this];trivial
  ·intro i j b hi;exact absurd (by simp only[List.getD,List.getElem?_map];cases ins[i]? <;> rfl) hi
  ·intro i b hi;exact absurd (by simp only[List.getD,List.getElem?_map];cases ins[i]? <;> rfl) hi
  ·intro i b hi;exact⟨zB5 (ho.bB i b hi) V9.size,.inr ⟨i,hi⟩⟩
 ·rw[h1]at EW;cases EW
theorem PC.toPWk{P:Program}{f:FuncId}{fn:Func}{c:Code}{args J6:List AV}{res:AV}{ins:List Row}(h:PC P f args res)(hf:P.funcs[f]? = some fn)(J7:(fn.name == "runtime.NumGoroutine")=false) (hb:fn.body=some c)
  (hp:ins.all Row.plainR=true) (TS:∀ (F F':Nat->Prop) (w w':World) (v:Value),y6 F w res v->y6 F' w' res v) (ha:J6.map (E3 4 fun i=>ins.getD i .none)=args):PW P f J6 ins res ins:=by
 intro F w vs β hF G0 I8 ho
 let S:St:=⟨[],ins,.plain⟩
 have hR:Rel (P:=P) (fun _=>True) w (Env.plain P F β none .plain (fun _=>rfl)) S β F { tmps:=#[],defers:=[] } w:=by
  refine⟨rfl,fun i hi=>absurd hi (zB3 i),⟨[],⟨rfl,fun _=>rfl⟩,List.nodup_nil,fun D hD=>absurd hD va9⟩,ho.rows,ho.inj,ho.bF,fun i b hi=>⟨trivial,ho.bB i b hi⟩,fun b hb=>⟨hF b hb,.inr trivial⟩,H3.refl _ _,fun _ _=>trivial,fun _ _ h=>h,?_,rfl,fun _ h=>h,C5.refl _ _,fun _ _ _ h _=>h,?_⟩
  ·intro j hj;exact(Bool.noConfusion (show false=true from hj))
  ·intro id l xs k e he;exfalso;have he:ins.getD id .none = .ctr l xs k e:=he;by_cases hi:id<ins.length
   ·have hm:ins.getD id .none ∈ ins:=by simp only[List.getD,zA6 hi,Option.getD_some];exact List.getElem_mem hi
    have:=List.all_eq_true.1 hp _ hm;rw[he]at this;cases this
   ·rw[List.getD,zA7 va5]at he;cases he
 have S9:∀ i,i<args.length->y6 (fun b=>F b∨∃ i,S.row i ≠ .none/\x7 β i b) w (args.getD i .any) (vs.getD i undef):=fun i hi=>by
  rw[<- ha,u0 _ (L1 4 _)];exact F9 hR 4 (I8 i (by rw[<- ha,List.length_map]at hi;exact hi))
 have z8:∀ b,(F b∨∃ i,S.row i ≠ .none/\x7 β i b)->b<w.heap.size:=fun b hb=>by
  rcases hb with hb|⟨i,_,hi⟩
  ·exact hF b hb
  ·exact ho.bB i b hi
 have EW:=Go.MuLone.run_callFunc_enter hf J7 hb vs w;refine⟨EW,?_⟩;have jM:vs.size=args.length:=by rw[G0,<- ha,List.length_map]
 rcases h _ w vs z8 jM S9 with ⟨_,h2⟩|⟨v,h1,_⟩
 ·refine h2.mono ?_;rintro e w' ⟨v,rfl,V9,hr⟩;have hk:C5 F w w':=fun k o u hk hc=>by
   rw[World.cell?_of_block (w:=w) (V9.block k (hF k hk))];exact hc
  refine⟨v,β,F,rfl,⟨V9.os,V9.tape,V9.output,V9.size,fun k hk=>V9.block k (Nat.lt_of_not_le fun q=>hk (.inl q))⟩,fun k hd hk=>hk,fun b hb=>hb,fun b hb=>⟨zB5 (hF b hb) V9.size,.inl hb⟩,.imm (TS _ _ _ _ _ hr),fun k=>(ho.rows k).grow (fun _ _=>rfl) (fun _ h=>h) hk (fun b hb=>V9.block b (ho.bB k b hb)),ho.inj,ho.bF,fun i b hi=>⟨zB5 (ho.bB i b hi) V9.size,.inr ⟨i,hi⟩⟩⟩
 ·rw[h1]at EW;cases EW
theorem tR(b:Bool):∀ (F F':Nat->Prop) (w w':World) (v:Value),y6 F w (.bool b) v->y6 F' w' (.bool b) v:=fun F F' w w' v h=>by cases h;exact .bool _

end Go.Ev
