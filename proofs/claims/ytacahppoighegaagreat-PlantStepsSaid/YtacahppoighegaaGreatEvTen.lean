/- Helper lemmas. -/
import Derived.Test.YtacahppoighegaaGreatEvSix
import Derived.WideShapes
import Derived.ChangeSlices
import Derived.ProofKit
set_option linter.unusedVariables false
set_option linter.unusedSimpArgs false
/- A call that hands back rows, as a call that hands back a value: the rows read as memory that stays. A helper text: it speaks of no program. -/
namespace Go.Ev
def Row.plainR:Row->Bool
 | .ctr _ _ _ _=>false
 | _=>true
theorem PW.toPC{P:Program}{f:FuncId}{args:List AV}{res:AV}{o9:List Row}(h:PW P f args [] res o9)(n:Nat)(hp:o9.all Row.plainR=true):PC P f args (E3 n (fun i=>o9.getD i .none) res):=by
 intro F w vs hF G0 I8;have ho:BG (fun _=>none) F w [] :=
  ⟨fun k=>by simp[y8],fun i j b hi=>absurd va9 hi,fun i b hi=>absurd va9 hi,fun i b hi=>by simp[x7,Z1]at hi,fun _ _=>rfl⟩
 obtain⟨h1,h2⟩:=h F w vs (fun _=>none) hF G0 (fun i hi => .imm (I8 i hi)) ho;refine .inl ⟨h1,h2.mono ?_⟩;rintro e w' ⟨v,β',F',rfl,hb,_,WG,En,hr,A1,js,To,IU⟩;have nin:∀ b,¬ jE (fun _=>(none:Option Hd)) b:=fun b ⟨k,hk⟩=>by simp[x7,Z1]at hk
 let S:St:=⟨[],o9,.plain⟩
 have hR:Rel (P:=P) (fun _=>True) w' (Env.plain P F' β' none .plain (fun _=>rfl)) S β' F' { tmps:=#[],defers:=[] } w':=by
  refine⟨rfl,fun i hi=>absurd hi (zB3 i),⟨[],⟨rfl,fun _=>rfl⟩,List.nodup_nil,fun D hD=>absurd hD va9⟩,A1,js,To,fun i b hi=>⟨trivial,(IU i b hi).1⟩,fun b hb=>⟨(En b hb).1,.inr trivial⟩,H3.refl _ _,fun _ _=>trivial,fun _ _ h=>h,?_,rfl,fun _ h=>h,C5.refl _ _,fun _ _ _ h _=>h,?_⟩
  ·intro j hj;exact(Bool.noConfusion (show false=true from hj))
  ·intro id l xs k e he;exfalso;have he:o9.getD id .none = .ctr l xs k e:=he;by_cases hi:id<o9.length
   ·have hm:o9.getD id .none ∈ o9:=by simp only[List.getD,zA6 hi,Option.getD_some];exact List.getElem_mem hi
    have:=List.all_eq_true.1 hp _ hm;rw[he]at this;cases this
   ·rw[List.getD,zA7 va5]at he;cases he
 refine⟨v,rfl,(hb.mono fun b hb=>?_).below,(F9 hR n hr).mono ?_ ?_⟩
 ·rcases hb with hb|hb
  ·exact hb
  ·exact absurd hb (nin b)
 ·rintro b (hb|⟨i,hi,B3⟩)
  ·rcases(En b hb).2 with h|h|h
   ·exact .inl h
   ·exact .inr h
   ·exact absurd h (nin b)
  ·rcases(IU i b B3).2 with h|h
   ·exact .inr h
   ·exact absurd h (nin b)
 ·exact fun _ _ _ _ h=>h
theorem PC.tts{P:Program}{f:FuncId}{args:List AV}{res:AV}(h:PC P f (args.map Q3) res):PC P f args res:=fun F w vs hF G0 hr =>
 h F w vs hF (by rw[List.length_map];exact G0) fun i hi=>by rw[gF];exact(hr i (by rwa[List.length_map]at hi)).tts
theorem PW.tts{P:Program}{f:FuncId}{args:List AV}{ins o9:List Row}{res:AV}(h:PW P f (args.map Q3) ins res o9):PW P f args ins res o9:=fun F w vs β hF G0 hr ho =>
 h F w vs β hF (by rw[List.length_map];exact G0) (fun i hi=>by rw[gF];exact(hr i (by rwa[List.length_map]at hi)).tts) ho
/- From a contract to a row. A helper text: it speaks of no program. -/
open Go.RowKit
theorem PC.calls{P:Program}{f:FuncId}{fn:Func}{c:Code}{args:List AV}{res:AV}(h:PC P f args res)(hf:P.funcs[f]? = some fn)(J7:(fn.name == "runtime.NumGoroutine")=false) (hb:fn.body=some c)
  {w:World} {vs:Array Value} (G0:vs.size=args.length) (T1:∀ i,i<args.length->y6 (fun b=>b<w.heap.size) w (args.getD i .any) (vs.getD i undef)) :
  Calls P f vs w fun e w'=>∃ v,e = .returned v/\Below w.heap.size w w'/\y6 (fun b=>b<w.heap.size∨w.heap.size<=b) w' res v:=by
 rcases h _ w vs (fun b hb=>hb) G0 T1 with ⟨_,h⟩|⟨v,h,_⟩
 ·exact h
 ·rw[Go.MuLone.run_callFunc_enter hf J7 hb]at h;cases h
theorem PC.callsTrue{P:Program}{f:FuncId}{fn:Func}{c:Code}{args:List AV}(h:PC P f args (.bool true))(hf:P.funcs[f]? = some fn)(J7:(fn.name == "runtime.NumGoroutine")=false) (hb:fn.body=some c)
  {w:World} {vs:Array Value} (G0:vs.size=args.length) (T1:∀ i,i<args.length->y6 (fun b=>b<w.heap.size) w (args.getD i .any) (vs.getD i undef)) :
  Calls P f vs w fun e w'=>e = .returned (.bool true)/\Below w.heap.size w w' :=
 (h.calls hf J7 hb G0 T1).mono fun _ _ ⟨_,h1,h2,h3⟩=>⟨by rw[h1];cases h3;rfl,h2⟩
theorem UD{n:Int}(h:(Lit.int .i64 n).wf=true):A4 n:=by
 simp[Lit.wf,IntKind.min,IntKind.max,IntKind.signed,IntKind.bits]at h;exact⟨va5,va5⟩
/- Structs and slices of structs that came in. A helper text: it speaks of no program. -/
def Co(P:Program)(e:TypeId){α:Type}(en:α->List AV)(Q:α->Prop):Prop :=
 ∀ {H:Type} {enc:TypeId×Value->H} {w:World} {base:Nat} {spare:Nat->Bool} {held:Bool} {fuel:Nat} {cs:List Value} {x:DataW H×List MemPlace},DataW.trod enc P w base spare held fuel e cs=some x ->
  ∃ y:α,Q y/\cs.length=P.cellsOf e/\∀ j,j<cs.length->∀ (F:Nat->Prop) (w':World),y6 F w' ((en y).getD j .any) (cs.getD j undef)
theorem nK{P:Program}{e:TypeId}(he:P.underlying e=some (.int .i64))(hc:P.cellsOf e=1):Co P e eI A4:=by
 intro H enc w base spare held fuel cs x h;obtain⟨m,rfl,rfl,hw⟩:=DataW.trod_int he h;refine⟨m,UD hw,by simp[hc],fun j hj F w' => ?_⟩;have:j=0:=by simpa using hj
 subst this;exact .int _ _
theorem GW{P:Program}{t:TypeId}{fs:Array Field}{f g:Field}{α β:Type}{en:α->List AV}{en':β->List AV}{Q:α->Prop}{Q':β->Prop}(ht:P.underlying t=some (.struct fs))(h0:fs[0]? = some f)(h1:fs[1]? = some g)
  (o0:f.offset=0) (o1:g.offset=P.cellsOf f.type) (hc:P.cellsOf t=P.cellsOf f.type+P.cellsOf g.type) (hf:Co P f.type en Q) (hg:Co P g.type en' Q') (hl:∀ a,(en a).length=P.cellsOf f.type) :
  Co P t (fun y:α×β=>en y.1++en' y.2) (fun y=>Q y.1/\Q' y.2):=by
 intro H enc w base spare held fuel cs x h;obtain⟨xs,n,rfl,rfl,hlen,G0,UE⟩:=DataW.trod_struct ht h;have e0:=UE 0 f h0;have e1:=UE 1 g h1;have s0:0<fs.size:=by
  rcases Nat.lt_or_ge 0 fs.size with h|h
  ·exact h
  ·rw[Array.getElem?_eq_none h]at h0;cases h0
 have s1:1<fs.size:=by
  rcases Nat.lt_or_ge 1 fs.size with h|h
  ·exact h
  ·rw[Array.getElem?_eq_none h]at h1;cases h1
 rw[zA6 va5]at e0 e1;obtain⟨y,q,l0,r0⟩:=hf e0;obtain⟨z,q',l1,r1⟩:=hg e1;refine⟨(y,z),⟨q,q'⟩,hlen,fun j hj F w' => ?_⟩;rw[o0,List.drop_zero]at r0 l0;rw[o1]at r1 l1;by_cases wS:j<P.cellsOf f.type
 ·have:=r0 j (by rw[l0];exact wS) F w';have e2:(cs.take (P.cellsOf f.type)).getD j undef=cs.getD j undef:=by simp[List.getD,List.getElem?_take,wS]
  have e3:(en y++en' z).getD j .any=(en y).getD j .any:=by simp[List.getD,List.getElem?_append,hl,wS]
  show y6 F w' ((en y++en' z).getD j .any) _
  rw[e3,<- e2];exact this
 ·have:=r1 (j-P.cellsOf f.type) (by rw[l1];omega) F w';have e2:((cs.drop (P.cellsOf f.type)).take (P.cellsOf g.type)).getD (j-P.cellsOf f.type) undef=cs.getD j undef:=by
   simp only[List.getD,List.getElem?_take,List.getElem?_drop];rw[if_pos va5]
   congr 2
   omega
  have e3:(en y++en' z).getD j .any=(en' z).getD (j-P.cellsOf f.type) .any:=by simp[List.getD,List.getElem?_append,hl,wS]
  show y6 F w' ((en y++en' z).getD j .any) _
  rw[e3,<- e2];exact this
/- Structs of any number of fields, and numbers of other kinds. A helper text: it speaks of no program. -/
def Qz(P:Program)(t:TypeId)(c:Nat){α:Type}(en:α->List AV)(Q:α->Prop):Prop :=
 ∀ {H:Type} {enc:TypeId×Value->H} {w:World} {base:Nat} {spare:Nat->Bool} {held:Bool} {fuel:Nat} {cs:List Value} {x:DataW H×List MemPlace},DataW.trod enc P w base spare held fuel t cs=some x ->
  ∃ y:α,Q y/\∀ j,j<c->∀ (F:Nat->Prop) (w':World),y6 F w' ((en y).getD j .any) (cs.getD j undef)
theorem bO{H:Type}{enc:TypeId×Value->H}{P:Program}{w:World}{base:Nat}{spare:Nat->Bool}{held:Bool}{fuel:Nat}{cs:List Value}{x:DataW H×List MemPlace}{t:TypeId}{fs:Array Field}{f:Field}{k:Nat}
  (ht:P.underlying t=some (.struct fs)) (hk:fs[k]? = some f) (h:DataW.trod enc P w base spare held fuel t cs=some x) :
  ∃ n y,cs.length=P.cellsOf t/\DataW.trod enc P w base spare held n f.type ((cs.drop f.offset).take (P.cellsOf f.type))=some y:=by
 obtain⟨xs,n,rfl,rfl,hlen,G0,UE⟩:=DataW.trod_struct ht h;have e:=UE k f hk;have s:k<fs.size:=by
  rcases Nat.lt_or_ge k fs.size with h|h
  ·exact h
  ·rw[Array.getElem?_eq_none h]at hk;cases hk
 rw[zA6 va5]at e;exact⟨_,_,hlen,e⟩
theorem QA{P:Program}{t:TypeId}{fs:Array Field}{f:Field}{α:Type}{en:α->List AV}{Q:α->Prop}(ht:P.underlying t=some (.struct fs))(hk:fs[0]? = some f)(ho:f.offset=0)(hf:Co P f.type en Q):Qz P t (P.cellsOf f.type) en Q:=by
 intro H enc w base spare held fuel cs x h;obtain⟨n,y,hlen,e⟩:=bO ht hk h;obtain⟨y,q,l0,r0⟩:=hf e;refine⟨y,q,fun j hj F w' => ?_⟩;rw[ho,List.drop_zero]at r0 l0;have:=r0 j va5 F w';have e2:(cs.take (P.cellsOf f.type)).getD j undef=cs.getD j undef:=by simp[List.getD,List.getElem?_take,hj]
 rw[<- e2];exact this
theorem nL{P:Program}{t:TypeId}{fs:Array Field}{f:Field}{k c:Nat}{α β:Type}{en:α->List AV}{en':β->List AV}{Q:α->Prop}{Q':β->Prop}(ht:P.underlying t=some (.struct fs))(hk:fs[k]? = some f)(ho:f.offset=c)
  (ha:Qz P t c en Q) (hf:Co P f.type en' Q') (hl:∀ a,(en a).length=c):Qz P t (c+P.cellsOf f.type) (fun y:α×β=>en y.1++en' y.2) (fun y=>Q y.1/\Q' y.2):=by
 intro H enc w base spare held fuel cs x h;obtain⟨n,y,hlen,e⟩:=bO ht hk h;obtain⟨z,q',l1,r1⟩:=hf e;obtain⟨y,q,r0⟩:=ha h;refine⟨(y,z),⟨q,q'⟩,fun j hj F w' => ?_⟩;rw[ho]at r1 l1;by_cases wS:j<c
 ·have e3:(en y++en' z).getD j .any=(en y).getD j .any:=by simp[List.getD,List.getElem?_append,hl,wS]
  show y6 F w' ((en y++en' z).getD j .any) _
  rw[e3];exact r0 j wS F w'
 ·have:=r1 (j-c) (by rw[l1];omega) F w';have e2:((cs.drop c).take (P.cellsOf f.type)).getD (j-c) undef=cs.getD j undef:=by
   simp only[List.getD,List.getElem?_take,List.getElem?_drop];rw[if_pos va5]
   congr 2
   omega
  have e3:(en y++en' z).getD j .any=(en' z).getD (j-c) .any:=by simp[List.getD,List.getElem?_append,hl,wS]
  show y6 F w' ((en y++en' z).getD j .any) _
  rw[e3,<- e2];exact this
theorem QB{P:Program}{t:TypeId}{fs:Array Field}{c:Nat}{f:Field}{α:Type}{en:α->List AV}{Q:α->Prop}(ht:P.underlying t=some (.struct fs))(hk:fs[0]? = some f)(hc:P.cellsOf t=c)(ha:Qz P t c en Q):Co P t en Q:=by
 intro H enc w base spare held fuel cs x h;obtain⟨n,y,hlen,e⟩:=bO ht hk h;obtain⟨y,q,r0⟩:=ha h;exact⟨y,q,hlen,fun j hj F w'=>r0 j va5 F w'⟩
theorem QC{P:Program}{e:TypeId}{k:IntKind}(he:P.underlying e=some (.int k))(hc:P.cellsOf e=1):Co P e (fun n=>[.int k n]) (fun n=>(Lit.int k n).wf=true):=by
 intro H enc w base spare held fuel cs x h;obtain⟨m,rfl,rfl,hw⟩:=DataW.trod_int he h;refine⟨m,hw,by simp[hc],fun j hj F w' => ?_⟩;have:j=0:=by simpa using hj
 subst this;exact .int _ _
/- Values with memory behind them that came in: slices within structs within slices. A helper text: it speaks of no program. -/
def E6(P:Program)(e:TypeId){α:Type}(en:α->List AV)(Q:α->Prop):Prop :=
 ∀ {H:Type} {enc:TypeId×Value->H} {w:World} {base:Nat} {spare:Nat->Bool} {held:Bool} {fuel:Nat} {cs:List Value} {x:DataW H×List MemPlace},DataW.trod enc P w base spare held fuel e cs=some x ->
  ∃ y:α,Q y/\cs.length=P.cellsOf e/\∀ j,j<cs.length->y6 (fun b=>b<w.heap.size) w ((en y).getD j .any) (cs.getD j undef)
theorem Co.mem{P:Program}{e:TypeId}{α:Type}{en:α->List AV}{Q:α->Prop}(h:Co P e en Q):E6 P e en Q:=by
 intro H enc w base spare held fuel cs x ht;obtain⟨y,q,l,r⟩:=h ht;exact⟨y,q,l,fun j hj=>r j hj _ _⟩
theorem E6.map{P:Program}{e:TypeId}{α β:Type}{en:α->List AV}{en':β->List AV}{Q:α->Prop}(h:E6 P e en Q)(f:α->β)(he:∀ y,en' (f y)=en y):E6 P e en' (fun z=>∃ y,f y=z/\Q y):=by
 intro H enc w base spare held fuel cs x ht;obtain⟨y,q,l,r⟩:=h ht;exact⟨f y,⟨y,rfl,q⟩,l,fun j hj=>by rw[he];exact r j hj⟩
theorem E6.weak{P:Program}{e:TypeId}{α:Type}{en:α->List AV}{Q Q':α->Prop}(h:E6 P e en Q)(hq:∀ y,Q y->Q' y):E6 P e en Q':=by
 intro H enc w base spare held fuel cs x ht;obtain⟨y,q,l,r⟩:=h ht;exact⟨y,hq y q,l,r⟩
theorem IV{P:Program}{e:TypeId}(he:P.underlying e=some .bool)(hc:P.cellsOf e=1):E6 P e (fun b:Bool=>[.bool b]) (fun _=>True):=by
 intro H enc w base spare held fuel cs x h;obtain⟨m,rfl,_⟩:=DataW.trod_bool he h;refine⟨m,trivial,by simp[hc],fun j hj=>?_⟩;have:j=0:=by simpa using hj
 subst this;exact .bool _
theorem bP{P:Program}{t e:TypeId}{α:Type}{d:α}{en:α->List AV}{Q:α->Prop}(ht:P.underlying t=some (.slice e))(hc:P.cellsOf t=1)(Ii:0<P.cellsOf e)(hd:E6 P e en Q) :
  E6 P t (fun l:List α=>[.sl (P.cellsOf e) d en l]) (fun l=>(∀ n ∈ l,Q n)/\l.length<=maxLen):=by
 intro H enc w base spare held fuel cs x h;rcases DataW.trod_slice ht h with ⟨rfl,_⟩|⟨a,len,cap,elems,rest,n,rfl,rfl,rfl,_,hl,hm,hlen,UE,_,_⟩
 ·refine⟨[],⟨by simp,by simp⟩,by simp[hc],fun j hj=>?_⟩;have:j=0:=by simpa using hj
  subst this;exact .slnil
 ·by_cases h0:len=0
  ·subst h0;refine⟨[],⟨by simp,by simp⟩,by simp[hc],fun j hj=>?_⟩;have:j=0:=by simpa using hj
   subst this;exact .slnil
  have hs:a.spot=none:=by
   have h1:=UE 0 va5;rw[zA6 va5,Option.bind_eq_some_iff]at h1;obtain⟨cs,h2,_⟩:=h1;obtain⟨_,h4,h5⟩:=World.cells?_some h2;have:=h5 0 Ii;rw[zA6 va5]at this;have:=World.cell?_spot this;simpa[Addr.add]using this
  obtain⟨b,o,sp⟩:=a;simp only at hs;subst hs;have each:∀ i,i<len->∃ y:α,Q y/\∀ j,j<P.cellsOf e->∃ v,w.cell? ⟨b,o+i*P.cellsOf e+j,none⟩=some v/\y6 (fun b=>b<w.heap.size) w ((en y).getD j .any) v:=by
   intro i hi;have h1:=UE i hi;rw[zA6 va5,Option.bind_eq_some_iff]at h1;obtain⟨cs,h2,h3⟩:=h1;obtain⟨y,q,Lp,hr⟩:=hd h3;obtain⟨_,h4,h5⟩:=World.cells?_some h2;refine⟨y,q,fun j hj=>⟨cs.getD j undef,?_,hr j va5⟩⟩;have:=h5 j hj;rw[U3,U3]at this;rw[this];simp[List.getD,show j<cs.length by omega]
  let f:Nat->α:=fun i=>if h:i<len then Classical.choose (each i h)else d
  have hf:∀ i,i<len->Q (f i)/\∀ j,j<P.cellsOf e->∃ v,w.cell? ⟨b,o+i*P.cellsOf e+j,none⟩=some v/\y6 (fun b=>b<w.heap.size) w ((en (f i)).getD j .any) v:=by
   intro i hi;have:=Classical.choose_spec (each i hi);simp only[f,hi,dite_true];exact this
  refine⟨(List.range len).map f,⟨fun n hn=>?_,by simp;omega⟩,by simp[hc],fun j hj=>?_⟩
  ·obtain⟨i,hi,rfl⟩:=List.mem_map.1 hn;exact(hf i (List.mem_range.1 hi)).1
  ·have:j=0:=by simpa using hj
   subst this;have XT:((List.range len).map f).length=len:=by simp
   have hg:∀ i,i<len->((List.range len).map f).getD i d=f i:=fun i hi=>by simp[List.getD,hi]
   have key:y6 (fun b=>b<w.heap.size) w (.sl (P.cellsOf e) d en ((List.range len).map f)) (.slice (some ⟨b,o,none⟩) ((List.range len).map f).length cap):=by
    refine .sl (fun i j=>(w.cell? ⟨b,o+i*P.cellsOf e+j,none⟩).getD undef) va5 (fun i j hi hj=>?_) fun i j hi hj=>?_
    ·obtain⟨v,h1,_⟩:=(hf i va5).2 j hj;have TB:=h1;rw[h1];exact⟨World.block_lt_of_cell? w ⟨b,o+i*P.cellsOf e+j,none⟩ TB,rfl⟩
    ·obtain⟨v,h1,h2⟩:=(hf i va5).2 j hj;rw[h1,hg i va5];exact h2
   rw[XT]at key;exact key
def GY(P:Program)(t:TypeId)(c:Nat){α:Type}(en:α->List AV)(Q:α->Prop):Prop :=
 ∀ {H:Type} {enc:TypeId×Value->H} {w:World} {base:Nat} {spare:Nat->Bool} {held:Bool} {fuel:Nat} {cs:List Value} {x:DataW H×List MemPlace},DataW.trod enc P w base spare held fuel t cs=some x ->
  ∃ y:α,Q y/\∀ j,j<c->y6 (fun b=>b<w.heap.size) w ((en y).getD j .any) (cs.getD j undef)
theorem U5{P:Program}{t:TypeId}{fs:Array Field}{f:Field}{α:Type}{en:α->List AV}{Q:α->Prop}(ht:P.underlying t=some (.struct fs))(hk:fs[0]? = some f)(ho:f.offset=0)(hf:E6 P f.type en Q):GY P t (P.cellsOf f.type) en Q:=by
 intro H enc w base spare held fuel cs x h;obtain⟨n,y,hlen,e⟩:=bO ht hk h;obtain⟨y,q,l0,r0⟩:=hf e;refine⟨y,q,fun j hj=>?_⟩;rw[ho,List.drop_zero]at r0 l0;have:=r0 j va5;have e2:(cs.take (P.cellsOf f.type)).getD j undef=cs.getD j undef:=by simp[List.getD,List.getElem?_take,hj]
 rw[<- e2];exact this
theorem v5{P:Program}{t:TypeId}{fs:Array Field}{f:Field}{k c:Nat}{α β:Type}{en:α->List AV}{en':β->List AV}{Q:α->Prop}{Q':β->Prop}(ht:P.underlying t=some (.struct fs))(hk:fs[k]? = some f)(ho:f.offset=c)
  (ha:GY P t c en Q) (hf:E6 P f.type en' Q') (hl:∀ a,(en a).length=c):GY P t (c+P.cellsOf f.type) (fun y:α×β=>en y.1++en' y.2) (fun y=>Q y.1/\Q' y.2):=by
 intro H enc w base spare held fuel cs x h;obtain⟨n,y,hlen,e⟩:=bO ht hk h;obtain⟨z,q',l1,r1⟩:=hf e;obtain⟨y,q,r0⟩:=ha h;refine⟨(y,z),⟨q,q'⟩,fun j hj=>?_⟩;rw[ho]at r1 l1;by_cases wS:j<c
 ·have e3:(en y++en' z).getD j .any=(en y).getD j .any:=by simp[List.getD,List.getElem?_append,hl,wS]
  show y6 _ w ((en y++en' z).getD j .any) _
  rw[e3];exact r0 j wS
 ·have:=r1 (j-c) (by rw[l1];omega);have e2:((cs.drop c).take (P.cellsOf f.type)).getD (j-c) undef=cs.getD j undef:=by
   simp only[List.getD,List.getElem?_take,List.getElem?_drop];rw[if_pos va5]
   congr 2
   omega
  have e3:(en y++en' z).getD j .any=(en' z).getD (j-c) .any:=by simp[List.getD,List.getElem?_append,hl,wS]
  show y6 _ w ((en y++en' z).getD j .any) _
  rw[e3,<- e2];exact this
theorem U6{P:Program}{t:TypeId}{fs:Array Field}{c:Nat}{f:Field}{α:Type}{en:α->List AV}{Q:α->Prop}(ht:P.underlying t=some (.struct fs))(hk:fs[0]? = some f)(hc:P.cellsOf t=c)(ha:GY P t c en Q):E6 P t en Q:=by
 intro H enc w base spare held fuel cs x h;obtain⟨n,y,hlen,e⟩:=bO ht hk h;obtain⟨y,q,r0⟩:=ha h;exact⟨y,q,hlen,fun j hj=>r0 j va5⟩
theorem nM{H:Type}{enc:TypeId×Value->H}{P:Program}{w:World}{r:Reach}{base:Nat}{spare:Nat->Bool}{held:Bool}{t:TypeId}{fs:Array Field}{v:Value}{d:DataW H}{ps:List MemPlace}(ht:P.underlying t=some (.struct fs))
  {α:Type} {en:α->List AV} {Q:α->Prop} (hd:E6 P t en Q) (hl:∀ y,(en y).length=P.cellsOf t) (hv:Value.okWide P w r base t v) (h:DataW.Trod enc P w 0 spare held t v d ps) :
  ∃ y:α,Q y/\y6 (fun b=>b<w.heap.size) w (.agg (en y)) v:=by
 unfold Value.okWide at hv;rw[ht]at hv;obtain⟨cs,rfl,rO,_⟩:=hv;obtain⟨fuel,h⟩:=h;obtain⟨y,q,h1,h2⟩:=hd h;have e:(Value.agg cs).cells.toList=cs.toList:=rfl;rw[e]at h1 h2;refine⟨y,q,.agg (by rw[hl];simpa using rO.symm) fun i hi=>?_⟩;have:=h2 i (by rw[hl]at hi;omega);have e2:cs.toList.getD i undef=cs.getD i undef:=by simp[List.getD,Array.getD_eq_getD_getElem?]
 rw[e2]at this;exact this
/- A row's closed facts, where the program's mark is long. A helper text: it speaks of no program. -/
open Go
theorem xx(rest:List (List Char)):stripLifts liftWords ("cut".toList :: rest)=([], "cut".toList :: rest):=by
 have h:∀ ws:List String,(ws.all fun w => !("cut".toList == w.toList))=true→stripLifts ws ("cut".toList :: rest)=([], "cut".toList :: rest):=by
  intro ws
  induction ws with
  | nil=>intro _;rfl
  | cons w ws ih =>
   intro hw;simp only[List.all_cons,zA2,Bool.not_eq_true']at hw;simp only[stripLifts,hw.1,zB0,if_false];exact ih hw.2
 exact h liftWords (by decide +kernel)
theorem zI(P:Program)(l:List Char)(hl:P.initOrder.toList=l)(b0:(behindMainWord (wordsSigns l)).head? = some "cut".toList) (h1:P.laysLater=false) (h2:P.bearsReflect=false) (h3:P.doorFits []=true):P.mayEnter=true:=by
 unfold Program.mayEnter;rw[hl];generalize behindMainWord (wordsSigns l)=m at b0 ⊢
 match m,b0 with
 | c :: rest,h =>
  have:c = "cut".toList:=by simpa using h
  subst this;simp only[xx,h1,h2,h3];simp
theorem MO(P:Program):P.make=(match behindMainWord (wordsSigns P.initOrder.toList)with
 | c :: rest=>if c == "gc".toList || c == "spec".toList then some .whole else if c == "cut".toList || (c == "finals".toList && rest.head? == some "cut".toList)then some .cut else if c == "carried".toList then some .carried else if P.headLifts.isEmpty then none else some (.lifted P.headLifts)
 | []=>none):=rfl
theorem MP(P:Program)(l:List Char)(hl:P.initOrder.toList=l)(b0:(behindMainWord (wordsSigns l)).head? = some "cut".toList):P.make=some .cut:=by
 rw[MO,hl];generalize behindMainWord (wordsSigns l)=m at b0 ⊢
 match m,b0 with
 | c :: rest,h =>
  have:c = "cut".toList:=by simpa using h
  subst this
  have h1:("cut".toList == "gc".toList || "cut".toList == "spec".toList)=false:=by decide +kernel
  have h2:("cut".toList == "cut".toList)=true:=by decide +kernel
  simp only[h1,h2,Bool.true_or,if_true,zB0,if_false]
theorem tO(P:Program)(l:List Char)(hl:P.initOrder.toList=l)(b0:(behindMainWord (wordsSigns l)).head? = some "cut".toList):P.liftsFinal=false:=by
 unfold Program.liftsFinal Program.headLifts;rw[hl];generalize behindMainWord (wordsSigns l)=m at b0 ⊢
 match m,b0 with
 | c :: rest,h =>
  have:c = "cut".toList:=by simpa using h
  subst this;simp only[xx]
  have h1:(some "cut".toList == some "carried".toList)=false:=by decide +kernel
  simp[h1]
def UF(P:Program)(f:FuncId)(fn:Func)(s:ChangeSpec)(c:OpenClaim)(m1:P.make=some .cut)(m2:P.mayEnter=true)(m3:P.liftsFinal=false):{ b:Bool // b=true->joinedFacts P f fn s c=true } :=
 ⟨_,by
  unfold joinedFacts;rw[m1,m2,m3]
  exact id⟩

end Go.Ev
