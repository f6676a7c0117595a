/- Helper lemmas. -/
import Derived.Test.YtdpnpdjnaimgaaaGreatEvSix
import Derived.WideShapes
import Derived.ChangeSlices
import Derived.ProofKit
set_option linter.unusedVariables false
set_option linter.unusedSimpArgs false
/- A call that hands back rows, as a call that hands back a value: the rows read as memory that stays. A helper text: it speaks of no program. -/
namespace Go.Ev
def Row.plainR:Row->Bool
 | .ctr _ _ _ _=>false
 | _=>true
theorem PW.toPC{P:Program}{f:FuncId}{args:List AV}{res:AV}{n7:List Row}(h:PW P f args [] res n7)(n:Nat)(hp:n7.all Row.plainR=true):PC P f args (D6 n (fun i=>n7.getD i .none) res):=by
 intro F w vs hF H5 L4;have ho:yW (fun _=>none) F w [] :=
  ⟨fun k=>by simp[A3],fun i j b hi=>absurd va9 hi,fun i b hi=>absurd va9 hi,fun i b hi=>by simp[y0,ck]at hi,fun _ _=>rfl⟩
 obtain⟨h1,h2⟩:=h F w vs (fun _=>none) hF H5 (fun i hi => .imm (L4 i hi)) ho;refine .inl ⟨h1,h2.mono ?_⟩;rintro e w' ⟨v,β',F',rfl,hb,_,YG,MT,hr,C2,pA,Vu,SW⟩;have Xn:∀ b,¬ jM (fun _=>(none:Option Hd)) b:=fun b ⟨k,hk⟩=>by simp[y0,ck]at hk
 let S:St:=⟨[],n7,.plain⟩
 have hR:Rel (P:=P) (fun _=>True) w' (Env.plain P F' β' none .plain (fun _=>rfl)) S β' F' { tmps:=#[],defers:=[] } w':=by
  refine⟨rfl,fun i hi=>absurd hi (zB3 i),⟨[],⟨rfl,fun _=>rfl⟩,List.nodup_nil,fun D hD=>absurd hD va9⟩,C2,pA,Vu,fun i b hi=>⟨trivial,(SW i b hi).1⟩,fun b hb=>⟨(MT b hb).1,.inr trivial⟩,I3.refl _ _,fun _ _=>trivial,fun _ _ h=>h,?_,rfl,fun _ h=>h,C5.refl _ _,fun _ _ _ h _=>h,?_⟩
  ·intro j hj;exact(Bool.noConfusion (show false=true from hj))
  ·intro id l xs k e he;exfalso;have he:n7.getD id .none = .ctr l xs k e:=he;by_cases hi:id<n7.length
   ·have hm:n7.getD id .none ∈ n7:=by simp only[List.getD,zA6 hi,Option.getD_some];exact List.getElem_mem hi
    have:=List.all_eq_true.1 hp _ hm;rw[he]at this;cases this
   ·rw[List.getD,zA7 va5]at he;cases he
 refine⟨v,rfl,(hb.mono fun b hb=>?_).below,(F5 hR n hr).mono ?_ ?_⟩
 ·rcases hb with hb|hb
  ·exact hb
  ·exact absurd hb (Xn b)
 ·rintro b (hb|⟨i,hi,B9⟩)
  ·rcases(MT b hb).2 with h|h|h
   ·exact .inl h
   ·exact .inr h
   ·exact absurd h (Xn b)
  ·rcases(SW i b B9).2 with h|h
   ·exact .inr h
   ·exact absurd h (Xn b)
 ·exact fun _ _ _ _ h=>h
theorem PC.tts{P:Program}{f:FuncId}{args:List AV}{res:AV}(h:PC P f (args.map P7) res):PC P f args res:=fun F w vs hF H5 hr =>
 h F w vs hF (by rw[List.length_map];exact H5) fun i hi=>by rw[eZ];exact(hr i (by rwa[List.length_map]at hi)).tts
theorem PW.tts{P:Program}{f:FuncId}{args:List AV}{ins n7:List Row}{res:AV}(h:PW P f (args.map P7) ins res n7):PW P f args ins res n7:=fun F w vs β hF H5 hr ho =>
 h F w vs β hF (by rw[List.length_map];exact H5) (fun i hi=>by rw[eZ];exact(hr i (by rwa[List.length_map]at hi)).tts) ho
/- From a contract to a row. A helper text: it speaks of no program. -/
open Go.RowKit
theorem PC.calls{P:Program}{f:FuncId}{fn:Func}{c:Code}{args:List AV}{res:AV}(h:PC P f args res)(hf:P.funcs[f]? = some fn)(J8:(fn.name == "runtime.NumGoroutine")=false) (hb:fn.body=some c)
  {w:World} {vs:Array Value} (H5:vs.size=args.length) (R0:∀ i,i<args.length->v7 (fun b=>b<w.heap.size) w (args.getD i .any) (vs.getD i undef)) :
  Calls P f vs w fun e w'=>∃ v,e = .returned v/\Below w.heap.size w w'/\v7 (fun b=>b<w.heap.size∨w.heap.size<=b) w' res v:=by
 rcases h _ w vs (fun b hb=>hb) H5 R0 with ⟨_,h⟩|⟨v,h,_⟩
 ·exact h
 ·rw[Go.MuLone.run_callFunc_enter hf J8 hb]at h;cases h
theorem PC.callsTrue{P:Program}{f:FuncId}{fn:Func}{c:Code}{args:List AV}(h:PC P f args (.bool true))(hf:P.funcs[f]? = some fn)(J8:(fn.name == "runtime.NumGoroutine")=false) (hb:fn.body=some c)
  {w:World} {vs:Array Value} (H5:vs.size=args.length) (R0:∀ i,i<args.length->v7 (fun b=>b<w.heap.size) w (args.getD i .any) (vs.getD i undef)) :
  Calls P f vs w fun e w'=>e = .returned (.bool true)/\Below w.heap.size w w' :=
 (h.calls hf J8 hb H5 R0).mono fun _ _ ⟨_,h1,h2,h3⟩=>⟨by rw[h1];cases h3;rfl,h2⟩
theorem QS{n:Int}(h:(Lit.int .i64 n).wf=true):G7 n:=by
 simp[Lit.wf,IntKind.min,IntKind.max,IntKind.signed,IntKind.bits]at h;exact⟨va5,va5⟩
/- Structs and slices of structs that came in. A helper text: it speaks of no program. -/
def zH(P:Program)(e:TypeId){α:Type}(en:α->List AV)(Q:α->Prop):Prop :=
 ∀ {H:Type} {enc:TypeId×Value->H} {w:World} {base:Nat} {spare:Nat->Bool} {held:Bool} {fuel:Nat} {cs:List Value} {x:DataW H×List MemPlace},DataW.trod enc P w base spare held fuel e cs=some x ->
  ∃ y:α,Q y/\cs.length=P.cellsOf e/\∀ j,j<cs.length->∀ (F:Nat->Prop) (w':World),v7 F w' ((en y).getD j .any) (cs.getD j undef)
theorem lX{P:Program}{e:TypeId}(he:P.underlying e=some (.int .i64))(hc:P.cellsOf e=1):zH P e eI G7:=by
 intro H enc w base spare held fuel cs x h;obtain⟨m,rfl,rfl,hw⟩:=DataW.trod_int he h;refine⟨m,QS hw,by simp[hc],fun j hj F w' => ?_⟩;have:j=0:=by simpa using hj
 subst this;exact .int _ _
theorem EG{P:Program}{t:TypeId}{fs:Array Field}{f g:Field}{α β:Type}{en:α->List AV}{en':β->List AV}{Q:α->Prop}{Q':β->Prop}(ht:P.underlying t=some (.struct fs))(h0:fs[0]? = some f)(h1:fs[1]? = some g)
  (o0:f.offset=0) (o1:g.offset=P.cellsOf f.type) (hc:P.cellsOf t=P.cellsOf f.type+P.cellsOf g.type) (hf:zH P f.type en Q) (hg:zH P g.type en' Q') (hl:∀ a,(en a).length=P.cellsOf f.type) :
  zH P t (fun y:α×β=>en y.1++en' y.2) (fun y=>Q y.1/\Q' y.2):=by
 intro H enc w base spare held fuel cs x h;obtain⟨xs,n,rfl,rfl,hlen,H5,QT⟩:=DataW.trod_struct ht h;have e0:=QT 0 f h0;have e1:=QT 1 g h1;have s0:0<fs.size:=by
  rcases Nat.lt_or_ge 0 fs.size with h|h
  ·exact h
  ·rw[Array.getElem?_eq_none h]at h0;cases h0
 have s1:1<fs.size:=by
  rcases Nat.lt_or_ge 1 fs.size with h|h
  ·exact h
  ·rw[Array.getElem?_eq_none h]at h1;cases h1
 rw[zA6 va5]at e0 e1;obtain⟨y,q,l0,r0⟩:=hf e0;obtain⟨z,q',l1,r1⟩:=hg e1;refine⟨(y,z),⟨q,q'⟩,hlen,fun j hj F w' => ?_⟩;rw[o0,List.drop_zero]at r0 l0;rw[o1]at r1 l1;by_cases vR:j<P.cellsOf f.type
 ·have:=r0 j (by rw[l0];exact vR) F w';have e2:(cs.take (P.cellsOf f.type)).getD j undef=cs.getD j undef:=by simp[List.getD,List.getElem?_take,vR]
  have e3:(en y++en' z).getD j .any=(en y).getD j .any:=by simp[List.getD,List.getElem?_append,hl,vR]
  show v7 F w' ((en y++en' z).getD j .any) _
  rw[e3,<- e2];exact this
 ·have:=r1 (j-P.cellsOf f.type) (by rw[l1];omega) F w';have e2:((cs.drop (P.cellsOf f.type)).take (P.cellsOf g.type)).getD (j-P.cellsOf f.type) undef=cs.getD j undef:=by
   simp only[List.getD,List.getElem?_take,List.getElem?_drop];rw[if_pos va5]
   congr 2
   omega
  have e3:(en y++en' z).getD j .any=(en' z).getD (j-P.cellsOf f.type) .any:=by simp[List.getD,List.getElem?_append,hl,vR]
  show v7 F w' ((en y++en' z).getD j .any) _
  rw[e3,<- e2];exact this
/- Structs of any number of fields, and numbers of other kinds. A helper text: it speaks of no program. -/
def Nw(P:Program)(t:TypeId)(c:Nat){α:Type}(en:α->List AV)(Q:α->Prop):Prop :=
 ∀ {H:Type} {enc:TypeId×Value->H} {w:World} {base:Nat} {spare:Nat->Bool} {held:Bool} {fuel:Nat} {cs:List Value} {x:DataW H×List MemPlace},DataW.trod enc P w base spare held fuel t cs=some x ->
  ∃ y:α,Q y/\∀ j,j<c->∀ (F:Nat->Prop) (w':World),v7 F w' ((en y).getD j .any) (cs.getD j undef)
theorem bj{H:Type}{enc:TypeId×Value->H}{P:Program}{w:World}{base:Nat}{spare:Nat->Bool}{held:Bool}{fuel:Nat}{cs:List Value}{x:DataW H×List MemPlace}{t:TypeId}{fs:Array Field}{f:Field}{k:Nat}
  (ht:P.underlying t=some (.struct fs)) (hk:fs[k]? = some f) (h:DataW.trod enc P w base spare held fuel t cs=some x) :
  ∃ n y,cs.length=P.cellsOf t/\DataW.trod enc P w base spare held n f.type ((cs.drop f.offset).take (P.cellsOf f.type))=some y:=by
 obtain⟨xs,n,rfl,rfl,hlen,H5,QT⟩:=DataW.trod_struct ht h;have e:=QT k f hk;have s:k<fs.size:=by
  rcases Nat.lt_or_ge k fs.size with h|h
  ·exact h
  ·rw[Array.getElem?_eq_none h]at hk;cases hk
 rw[zA6 va5]at e;exact⟨_,_,hlen,e⟩
theorem Nx{P:Program}{t:TypeId}{fs:Array Field}{f:Field}{α:Type}{en:α->List AV}{Q:α->Prop}(ht:P.underlying t=some (.struct fs))(hk:fs[0]? = some f)(ho:f.offset=0)(hf:zH P f.type en Q):Nw P t (P.cellsOf f.type) en Q:=by
 intro H enc w base spare held fuel cs x h;obtain⟨n,y,hlen,e⟩:=bj ht hk h;obtain⟨y,q,l0,r0⟩:=hf e;refine⟨y,q,fun j hj F w' => ?_⟩;rw[ho,List.drop_zero]at r0 l0;have:=r0 j va5 F w';have e2:(cs.take (P.cellsOf f.type)).getD j undef=cs.getD j undef:=by simp[List.getD,List.getElem?_take,hj]
 rw[<- e2];exact this
theorem lY{P:Program}{t:TypeId}{fs:Array Field}{f:Field}{k c:Nat}{α β:Type}{en:α->List AV}{en':β->List AV}{Q:α->Prop}{Q':β->Prop}(ht:P.underlying t=some (.struct fs))(hk:fs[k]? = some f)(ho:f.offset=c)
  (ha:Nw P t c en Q) (hf:zH P f.type en' Q') (hl:∀ a,(en a).length=c):Nw P t (c+P.cellsOf f.type) (fun y:α×β=>en y.1++en' y.2) (fun y=>Q y.1/\Q' y.2):=by
 intro H enc w base spare held fuel cs x h;obtain⟨n,y,hlen,e⟩:=bj ht hk h;obtain⟨z,q',l1,r1⟩:=hf e;obtain⟨y,q,r0⟩:=ha h;refine⟨(y,z),⟨q,q'⟩,fun j hj F w' => ?_⟩;rw[ho]at r1 l1;by_cases vR:j<c
 ·have e3:(en y++en' z).getD j .any=(en y).getD j .any:=by simp[List.getD,List.getElem?_append,hl,vR]
  show v7 F w' ((en y++en' z).getD j .any) _
  rw[e3];exact r0 j vR F w'
 ·have:=r1 (j-c) (by rw[l1];omega) F w';have e2:((cs.drop c).take (P.cellsOf f.type)).getD (j-c) undef=cs.getD j undef:=by
   simp only[List.getD,List.getElem?_take,List.getElem?_drop];rw[if_pos va5]
   congr 2
   omega
  have e3:(en y++en' z).getD j .any=(en' z).getD (j-c) .any:=by simp[List.getD,List.getElem?_append,hl,vR]
  show v7 F w' ((en y++en' z).getD j .any) _
  rw[e3,<- e2];exact this
theorem Ny{P:Program}{t:TypeId}{fs:Array Field}{c:Nat}{f:Field}{α:Type}{en:α->List AV}{Q:α->Prop}(ht:P.underlying t=some (.struct fs))(hk:fs[0]? = some f)(hc:P.cellsOf t=c)(ha:Nw P t c en Q):zH P t en Q:=by
 intro H enc w base spare held fuel cs x h;obtain⟨n,y,hlen,e⟩:=bj ht hk h;obtain⟨y,q,r0⟩:=ha h;exact⟨y,q,hlen,fun j hj F w'=>r0 j va5 F w'⟩
theorem Nz{P:Program}{e:TypeId}{k:IntKind}(he:P.underlying e=some (.int k))(hc:P.cellsOf e=1):zH P e (fun n=>[.int k n]) (fun n=>(Lit.int k n).wf=true):=by
 intro H enc w base spare held fuel cs x h;obtain⟨m,rfl,rfl,hw⟩:=DataW.trod_int he h;refine⟨m,hw,by simp[hc],fun j hj F w' => ?_⟩;have:j=0:=by simpa using hj
 subst this;exact .int _ _
/- Values with memory behind them that came in: slices within structs within slices. A helper text: it speaks of no program. -/
def D8(P:Program)(e:TypeId){α:Type}(en:α->List AV)(Q:α->Prop):Prop :=
 ∀ {H:Type} {enc:TypeId×Value->H} {w:World} {base:Nat} {spare:Nat->Bool} {held:Bool} {fuel:Nat} {cs:List Value} {x:DataW H×List MemPlace},DataW.trod enc P w base spare held fuel e cs=some x ->
  ∃ y:α,Q y/\cs.length=P.cellsOf e/\∀ j,j<cs.length->v7 (fun b=>b<w.heap.size) w ((en y).getD j .any) (cs.getD j undef)
theorem zH.mem{P:Program}{e:TypeId}{α:Type}{en:α->List AV}{Q:α->Prop}(h:zH P e en Q):D8 P e en Q:=by
 intro H enc w base spare held fuel cs x ht;obtain⟨y,q,l,r⟩:=h ht;exact⟨y,q,l,fun j hj=>r j hj _ _⟩
theorem D8.map{P:Program}{e:TypeId}{α β:Type}{en:α->List AV}{en':β->List AV}{Q:α->Prop}(h:D8 P e en Q)(f:α->β)(he:∀ y,en' (f y)=en y):D8 P e en' (fun z=>∃ y,f y=z/\Q y):=by
 intro H enc w base spare held fuel cs x ht;obtain⟨y,q,l,r⟩:=h ht;exact⟨f y,⟨y,rfl,q⟩,l,fun j hj=>by rw[he];exact r j hj⟩
theorem D8.weak{P:Program}{e:TypeId}{α:Type}{en:α->List AV}{Q Q':α->Prop}(h:D8 P e en Q)(hq:∀ y,Q y->Q' y):D8 P e en Q':=by
 intro H enc w base spare held fuel cs x ht;obtain⟨y,q,l,r⟩:=h ht;exact⟨y,hq y q,l,r⟩
theorem Z2{P:Program}{t e:TypeId}{α:Type}{d:α}{en:α->List AV}{Q:α->Prop}(ht:P.underlying t=some (.slice e))(hc:P.cellsOf t=1)(Ck:0<P.cellsOf e)(hd:D8 P e en Q) :
  D8 P t (fun l:List α=>[.sl (P.cellsOf e) d en l]) (fun l=>(∀ n ∈ l,Q n)/\l.length<=maxLen):=by
 intro H enc w base spare held fuel cs x h;rcases DataW.trod_slice ht h with ⟨rfl,_⟩|⟨a,len,cap,elems,rest,n,rfl,rfl,rfl,_,hl,hm,hlen,QT,_,_⟩
 ·refine⟨[],⟨by simp,by simp⟩,by simp[hc],fun j hj=>?_⟩;have:j=0:=by simpa using hj
  subst this;exact .slnil
 ·by_cases h0:len=0
  ·subst h0;refine⟨[],⟨by simp,by simp⟩,by simp[hc],fun j hj=>?_⟩;have:j=0:=by simpa using hj
   subst this;exact .slnil
  have hs:a.spot=none:=by
   have h1:=QT 0 va5;rw[zA6 va5,Option.bind_eq_some_iff]at h1;obtain⟨cs,h2,_⟩:=h1;obtain⟨_,h4,h5⟩:=World.cells?_some h2;have:=h5 0 Ck;rw[zA6 va5]at this;have:=World.cell?_spot this;simpa[Addr.add]using this
  obtain⟨b,o,sp⟩:=a;simp only at hs;subst hs;have each:∀ i,i<len->∃ y:α,Q y/\∀ j,j<P.cellsOf e->∃ v,w.cell? ⟨b,o+i*P.cellsOf e+j,none⟩=some v/\v7 (fun b=>b<w.heap.size) w ((en y).getD j .any) v:=by
   intro i hi;have h1:=QT i hi;rw[zA6 va5,Option.bind_eq_some_iff]at h1;obtain⟨cs,h2,h3⟩:=h1;obtain⟨y,q,IF,hr⟩:=hd h3;obtain⟨_,h4,h5⟩:=World.cells?_some h2;refine⟨y,q,fun j hj=>⟨cs.getD j undef,?_,hr j va5⟩⟩;have:=h5 j hj;rw[U8,U8]at this;rw[this];simp[List.getD,show j<cs.length by omega]
  let f:Nat->α:=fun i=>if h:i<len then Classical.choose (each i h)else d
  have hf:∀ i,i<len->Q (f i)/\∀ j,j<P.cellsOf e->∃ v,w.cell? ⟨b,o+i*P.cellsOf e+j,none⟩=some v/\v7 (fun b=>b<w.heap.size) w ((en (f i)).getD j .any) v:=by
   intro i hi;have:=Classical.choose_spec (each i hi);simp only[f,hi,dite_true];exact this
  refine⟨(List.range len).map f,⟨fun n hn=>?_,by simp;omega⟩,by simp[hc],fun j hj=>?_⟩
  ·obtain⟨i,hi,rfl⟩:=List.mem_map.1 hn;exact(hf i (List.mem_range.1 hi)).1
  ·have:j=0:=by simpa using hj
   subst this;have Uq:((List.range len).map f).length=len:=by simp
   have hg:∀ i,i<len->((List.range len).map f).getD i d=f i:=fun i hi=>by simp[List.getD,hi]
   have key:v7 (fun b=>b<w.heap.size) w (.sl (P.cellsOf e) d en ((List.range len).map f)) (.slice (some ⟨b,o,none⟩) ((List.range len).map f).length cap):=by
    refine .sl (fun i j=>(w.cell? ⟨b,o+i*P.cellsOf e+j,none⟩).getD undef) va5 (fun i j hi hj=>?_) fun i j hi hj=>?_
    ·obtain⟨v,h1,_⟩:=(hf i va5).2 j hj;have PS:=h1;rw[h1];exact⟨World.block_lt_of_cell? w ⟨b,o+i*P.cellsOf e+j,none⟩ PS,rfl⟩
    ·obtain⟨v,h1,h2⟩:=(hf i va5).2 j hj;rw[h1,hg i va5];exact h2
   rw[Uq]at key;exact key
def EH(P:Program)(t:TypeId)(c:Nat){α:Type}(en:α->List AV)(Q:α->Prop):Prop :=
 ∀ {H:Type} {enc:TypeId×Value->H} {w:World} {base:Nat} {spare:Nat->Bool} {held:Bool} {fuel:Nat} {cs:List Value} {x:DataW H×List MemPlace},DataW.trod enc P w base spare held fuel t cs=some x ->
  ∃ y:α,Q y/\∀ j,j<c->v7 (fun b=>b<w.heap.size) w ((en y).getD j .any) (cs.getD j undef)
theorem T1{P:Program}{t:TypeId}{fs:Array Field}{f:Field}{α:Type}{en:α->List AV}{Q:α->Prop}(ht:P.underlying t=some (.struct fs))(hk:fs[0]? = some f)(ho:f.offset=0)(hf:D8 P f.type en Q):EH P t (P.cellsOf f.type) en Q:=by
 intro H enc w base spare held fuel cs x h;obtain⟨n,y,hlen,e⟩:=bj ht hk h;obtain⟨y,q,l0,r0⟩:=hf e;refine⟨y,q,fun j hj=>?_⟩;rw[ho,List.drop_zero]at r0 l0;have:=r0 j va5;have e2:(cs.take (P.cellsOf f.type)).getD j undef=cs.getD j undef:=by simp[List.getD,List.getElem?_take,hj]
 rw[<- e2];exact this
theorem v5{P:Program}{t:TypeId}{fs:Array Field}{f:Field}{k c:Nat}{α β:Type}{en:α->List AV}{en':β->List AV}{Q:α->Prop}{Q':β->Prop}(ht:P.underlying t=some (.struct fs))(hk:fs[k]? = some f)(ho:f.offset=c)
  (ha:EH P t c en Q) (hf:D8 P f.type en' Q') (hl:∀ a,(en a).length=c):EH P t (c+P.cellsOf f.type) (fun y:α×β=>en y.1++en' y.2) (fun y=>Q y.1/\Q' y.2):=by
 intro H enc w base spare held fuel cs x h;obtain⟨n,y,hlen,e⟩:=bj ht hk h;obtain⟨z,q',l1,r1⟩:=hf e;obtain⟨y,q,r0⟩:=ha h;refine⟨(y,z),⟨q,q'⟩,fun j hj=>?_⟩;rw[ho]at r1 l1;by_cases vR:j<c
 ·have e3:(en y++en' z).getD j .any=(en y).getD j .any:=by simp[List.getD,List.getElem?_append,hl,vR]
  show v7 _ w ((en y++en' z).getD j .any) _
  rw[e3];exact r0 j vR
 ·have:=r1 (j-c) (by rw[l1];omega);have e2:((cs.drop c).take (P.cellsOf f.type)).getD (j-c) undef=cs.getD j undef:=by
   simp only[List.getD,List.getElem?_take,List.getElem?_drop];rw[if_pos va5]
   congr 2
   omega
  have e3:(en y++en' z).getD j .any=(en' z).getD (j-c) .any:=by simp[List.getD,List.getElem?_append,hl,vR]
  show v7 _ w ((en y++en' z).getD j .any) _
  rw[e3,<- e2];exact this
theorem T2{P:Program}{t:TypeId}{fs:Array Field}{c:Nat}{f:Field}{α:Type}{en:α->List AV}{Q:α->Prop}(ht:P.underlying t=some (.struct fs))(hk:fs[0]? = some f)(hc:P.cellsOf t=c)(ha:EH P t c en Q):D8 P t en Q:=by
 intro H enc w base spare held fuel cs x h;obtain⟨n,y,hlen,e⟩:=bj ht hk h;obtain⟨y,q,r0⟩:=ha h;exact⟨y,q,hlen,fun j hj=>r0 j va5⟩
theorem M7{H:Type}{enc:TypeId×Value->H}{P:Program}{w:World}{r:Reach}{base:Nat}{spare:Nat->Bool}{held:Bool}{t:TypeId}{fs:Array Field}{v:Value}{d:DataW H}{ps:List MemPlace}(ht:P.underlying t=some (.struct fs))
  {α:Type} {en:α->List AV} {Q:α->Prop} (hd:D8 P t en Q) (hl:∀ y,(en y).length=P.cellsOf t) (hv:Value.okWide P w r base t v) (h:DataW.Trod enc P w 0 spare held t v d ps) :
  ∃ y:α,Q y/\v7 (fun b=>b<w.heap.size) w (.agg (en y)) v:=by
 unfold Value.okWide at hv;rw[ht]at hv;obtain⟨cs,rfl,uq,_⟩:=hv;obtain⟨fuel,h⟩:=h;obtain⟨y,q,h1,h2⟩:=hd h;have e:(Value.agg cs).cells.toList=cs.toList:=rfl;rw[e]at h1 h2;refine⟨y,q,.agg (by rw[hl];simpa using uq.symm) fun i hi=>?_⟩;have:=h2 i (by rw[hl]at hi;omega);have e2:cs.toList.getD i undef=cs.getD i undef:=by simp[List.getD,Array.getD_eq_getD_getElem?]
 rw[e2]at this;exact this
theorem ad{H:Type}{enc:TypeId×Value->H}{P:Program}{w:World}{base:Nat}{spare:Nat->Bool}{held:Bool}{t:TypeId}{a:Option Addr}{len cap:Nat}{d:DataW H}{ps:List MemPlace}
  {α:Type} {en:α->AV} {Q:α->Prop} (hd:D8 P t (fun y=>[en y]) Q) (h:DataW.Trod enc P w 0 spare held t (.slice a len cap) d ps) :
  ∃ y:α,Q y/\v7 (fun b=>b<w.heap.size) w (en y) (.slice a len cap):=by
 obtain⟨fuel,h⟩:=h;obtain⟨y,q,h1,h2⟩:=hd h;exact⟨y,q,h2 0 (by simp[Value.cells])⟩
/- A row's closed facts, where the program's mark is long. A helper text: it speaks of no program. -/
open Go
theorem uP(rest:List (List Char)):stripLifts liftWords ("cut".toList :: rest)=([], "cut".toList :: rest):=by
 have h:∀ ws:List String,(ws.all fun w => !("cut".toList == w.toList))=true→stripLifts ws ("cut".toList :: rest)=([], "cut".toList :: rest):=by
  intro ws
  induction ws with
  | nil=>intro _;rfl
  | cons w ws ih =>
   intro hw;simp only[List.all_cons,zA2,Bool.not_eq_true']at hw;simp only[stripLifts,hw.1,zB0,if_false];exact ih hw.2
 exact h liftWords (by decide +kernel)
theorem xe(P:Program)(l:List Char)(hl:P.initOrder.toList=l)(b0:(behindMainWord (wordsSigns l)).head? = some "cut".toList) (h1:P.laysLater=false) (h2:P.bearsReflect=false) (h3:P.doorFits []=true):P.mayEnter=true:=by
 unfold Program.mayEnter;rw[hl];generalize behindMainWord (wordsSigns l)=m at b0 ⊢
 match m,b0 with
 | c :: rest,h =>
  have:c = "cut".toList:=by simpa using h
  subst this;simp only[uP,h1,h2,h3];simp
theorem Kc(P:Program):P.make=(match behindMainWord (wordsSigns P.initOrder.toList)with
 | c :: rest=>if c == "gc".toList || c == "spec".toList then some .whole else if c == "cut".toList || (c == "finals".toList && rest.head? == some "cut".toList)then some .cut else if c == "carried".toList then some .carried else if P.headLifts.isEmpty then none else some (.lifted P.headLifts)
 | []=>none):=rfl
theorem Kd(P:Program)(l:List Char)(hl:P.initOrder.toList=l)(b0:(behindMainWord (wordsSigns l)).head? = some "cut".toList):P.make=some .cut:=by
 rw[Kc,hl];generalize behindMainWord (wordsSigns l)=m at b0 ⊢
 match m,b0 with
 | c :: rest,h =>
  have:c = "cut".toList:=by simpa using h
  subst this
  have h1:("cut".toList == "gc".toList || "cut".toList == "spec".toList)=false:=by decide +kernel
  have h2:("cut".toList == "cut".toList)=true:=by decide +kernel
  simp only[h1,h2,Bool.true_or,if_true,zB0,if_false]
theorem rB(P:Program)(l:List Char)(hl:P.initOrder.toList=l)(b0:(behindMainWord (wordsSigns l)).head? = some "cut".toList):P.liftsFinal=false:=by
 unfold Program.liftsFinal Program.headLifts;rw[hl];generalize behindMainWord (wordsSigns l)=m at b0 ⊢
 match m,b0 with
 | c :: rest,h =>
  have:c = "cut".toList:=by simpa using h
  subst this;simp only[uP]
  have h1:(some "cut".toList == some "carried".toList)=false:=by decide +kernel
  simp[h1]
def iM(P:Program)(f:FuncId)(fn:Func)(s:ChangeSpec)(c:OpenClaim)(m1:P.make=some .cut)(m2:P.mayEnter=true)(m3:P.liftsFinal=false):{ b:Bool // b=true->joinedFacts P f fn s c=true } :=
 ⟨_,by
  unfold joinedFacts;rw[m1,m2,m3]
  exact id⟩

end Go.Ev
