/- Helper lemmas. -/
import Derived.Test.YtdpnpdjnaimgaaaGreatEvSix
import Derived.WideShapes
import Derived.ChangeSlices
import Derived.ProofKit
set_option linter.unusedVariables false
set_option linter.unusedSimpArgs false
/- A call that hands back rows, as a call that hands back a value: the rows read as memory that stays. A helper text: it speaks of no program. -/
namespace Go.Ev
def Row.plainR:Row->Bool
 | .ctr _ _ _ _=>false
 | _=>true
theorem PW.toPC {P:Program} {f:FuncId} {args:List AV} {res:AV} {n7:List Row} (h:PW P f args [] res n7) (n:Nat) (hp:n7.all Row.plainR=true):PC P f args (D6 n (fun i=>n7.getD i .none) res):=by
 intro F w vs hF H5 L4
 have ho:yW (fun _=>none) F w [] :=
  ⟨fun k=>by simp [A3],fun i j b hi=>absurd (by simp) hi,fun i b hi=>absurd (by simp) hi,fun i b hi=>by simp [y0,ck] at hi,fun _ _=>rfl⟩
 obtain ⟨h1,h2⟩:=h F w vs (fun _=>none) hF H5 (fun i hi => .imm (L4 i hi)) ho
 refine .inl ⟨h1,h2.mono ?_⟩
 rintro e w' ⟨v,β',F',rfl,hb,_,YG,MT,hr,C2,pA,Vu,SW⟩
 have Xn:∀ b,¬ jM (fun _=>(none:Option Hd)) b:=fun b ⟨k,hk⟩=>by simp [y0,ck] at hk
 let S:St:=⟨[],n7,.plain⟩
 have hR:Rel (P:=P) (fun _=>True) w' (Env.plain P F' β' none .plain (fun _=>rfl)) S β' F' { tmps:=#[],defers:=[] } w':=by
  refine ⟨rfl,fun i hi=>absurd hi (Nat.not_lt_zero i),⟨[],⟨rfl,fun _=>rfl⟩,List.nodup_nil,fun D hD=>absurd hD (by simp)⟩,C2,pA,Vu,fun i b hi=>⟨trivial,(SW i b hi).1⟩,fun b hb=>⟨(MT b hb).1,.inr trivial⟩,I3.refl _ _,fun _ _=>trivial,fun _ _ h=>h,?_,rfl,fun _ h=>h,C5.refl _ _,fun _ _ _ h _=>h,?_⟩
  ·intro j hj
   exact (Bool.noConfusion (show false=true from hj))
  ·intro id l xs k e he
   exfalso
   have he:n7.getD id .none = .ctr l xs k e:=he
   by_cases hi:id < n7.length
   ·have hm:n7.getD id .none ∈ n7:=by simp only [List.getD,List.getElem?_eq_getElem hi,Option.getD_some];exact List.getElem_mem hi
    have:=List.all_eq_true.1 hp _ hm
    rw [he] at this
    cases this
   ·rw [List.getD,List.getElem?_eq_none (by omega)] at he
    cases he
 refine ⟨v,rfl,(hb.mono fun b hb=>?_).below,(F5 hR n hr).mono ?_ ?_⟩
 ·rcases hb with hb|hb
  ·exact hb
  ·exact absurd hb (Xn b)
 ·rintro b (hb|⟨i,hi,B9⟩)
  ·rcases (MT b hb).2 with h|h|h
   ·exact .inl h
   ·exact .inr h
   ·exact absurd h (Xn b)
  ·rcases (SW i b B9).2 with h|h
   ·exact .inr h
   ·exact absurd h (Xn b)
 ·exact fun _ _ _ _ h=>h
theorem PC.tts {P:Program} {f:FuncId} {args:List AV} {res:AV} (h:PC P f (args.map P7) res):PC P f args res:=fun F w vs hF H5 hr =>
 h F w vs hF (by rw [List.length_map];exact H5) fun i hi=>by rw [eZ];exact (hr i (by rwa [List.length_map] at hi)).tts
theorem PW.tts {P:Program} {f:FuncId} {args:List AV} {ins n7:List Row} {res:AV} (h:PW P f (args.map P7) ins res n7):PW P f args ins res n7:=fun F w vs β hF H5 hr ho =>
 h F w vs β hF (by rw [List.length_map];exact H5) (fun i hi=>by rw [eZ];exact (hr i (by rwa [List.length_map] at hi)).tts) ho
/- From a contract to a row. A helper text: it speaks of no program. -/
open Go.RowKit
theorem PC.calls {P:Program} {f:FuncId} {fn:Func} {c:Code} {args:List AV} {res:AV} (h:PC P f args res) (hf:P.funcs[f]? = some fn) (J8:(fn.name == "runtime.NumGoroutine")=false) (hb:fn.body=some c)
  {w:World} {vs:Array Value} (H5:vs.size=args.length) (R0:∀ i,i < args.length->v7 (fun b=>b < w.heap.size) w (args.getD i .any) (vs.getD i undef)) :
  Calls P f vs w fun e w'=>∃ v,e = .returned v/\Below w.heap.size w w'/\v7 (fun b=>b < w.heap.size∨w.heap.size<=b) w' res v:=by
 rcases h _ w vs (fun b hb=>hb) H5 R0 with ⟨_,h⟩|⟨v,h,_⟩
 ·exact h
 ·rw [Go.MuLone.run_callFunc_enter hf J8 hb] at h
  cases h
theorem PC.callsTrue {P:Program} {f:FuncId} {fn:Func} {c:Code} {args:List AV} (h:PC P f args (.bool true)) (hf:P.funcs[f]? = some fn) (J8:(fn.name == "runtime.NumGoroutine")=false) (hb:fn.body=some c)
  {w:World} {vs:Array Value} (H5:vs.size=args.length) (R0:∀ i,i < args.length->v7 (fun b=>b < w.heap.size) w (args.getD i .any) (vs.getD i undef)) :
  Calls P f vs w fun e w'=>e = .returned (.bool true)/\Below w.heap.size w w' :=
 (h.calls hf J8 hb H5 R0).mono fun _ _ ⟨_,h1,h2,h3⟩=>⟨by rw [h1];cases h3;rfl,h2⟩
theorem r5 {P:Program} {w:World} {r:Reach} {base:Nat} {t e:TypeId} (ht:P.underlying t=some (.slice e)) {x:Addr} {len cap:Nat} (h:Value.okWide P w r base t (.slice (some x) len cap)):x.spot=none:=by
 simp only [Value.okWide,ht,Cell.okWide] at h
 simp only [Cell.ok,ht] at h
 exact h.2.2.2.1
theorem QS {n:Int} (h:(Lit.int .i64 n).wf=true):G7 n:=by
 simp [Lit.wf,IntKind.min,IntKind.max,IntKind.signed,IntKind.bits] at h
 exact ⟨by omega,by omega⟩
theorem m0 {H:Type} {enc:TypeId×Value->H} {P:Program} {w:World} {r:Reach} {base fuel:Nat} {spare:Nat->Bool} {held:Bool} {t e:TypeId} {y:DataW H×List MemPlace} (ht:P.underlying t=some (.slice e)) (he:P.underlying e=some (.int .i64)) (hc:P.cellsOf e=1)
  {a:Option Addr} {len cap:Nat} (hv:Value.okWide P w r base t (.slice a len cap)) (h:DataW.trod enc P w 0 spare held fuel t (Value.slice a len cap).cells.toList=some y) :
  ∃ l:List Int,v7 (fun b=>b < w.heap.size) w (C8 l) (.slice a len cap)/\(∀ n ∈ l,G7 n)/\l.length<=maxLen:=by
 rcases Go.ChangeShapes.open_ints ht he hc h with ⟨uq,_⟩|⟨x,l,c,zs,uq,_,hl,hm,hz,_,I5,hwz⟩
 ·simp [Value.cells] at uq
  obtain ⟨rfl,rfl,rfl⟩:=uq
  exact ⟨[],.slnil,by simp,by simp⟩
 ·simp [Value.cells] at uq
  obtain ⟨rfl,rfl,rfl⟩:=uq
  have hs:=r5 ht hv
  obtain ⟨b,o,sp⟩:=x
  simp only at hs
  subst hs
  have hlen:len<=zs.length:=by rw [hz];split<;>omega
  have e1:(zs.take len).length=len:=by simp;omega
  refine ⟨zs.take len,?_,fun n hn=>QS (hwz n (List.mem_of_mem_take hn)),by omega⟩
  have key:v7 (fun b=>b < w.heap.size) w (C8 (zs.take len)) (.slice (some ⟨b,o,none⟩) (zs.take len).length cap):=by
   refine .sl (fun i _ => .int .i64 (zs.getD i 0)) (by omega) (fun i j hi hj=>?_) fun i j hi hj=>?_
   ·have:=I5 i (by omega)
    rw [U8] at this
    have qo:j=0:=by omega
    subst qo
    rw [Nat.mul_one,Nat.add_zero]
    exact ⟨World.block_lt_of_cell? w ⟨b,o + i,none⟩ this,this⟩
   ·have qo:j=0:=by omega
    subst qo
    have e2:(zs.take len).getD i 0=zs.getD i 0:=by
     simp [List.getD,List.getElem?_take,show i < len by omega]
    show v7 _ w (.int .i64 ((zs.take len).getD i 0)) _
    rw [e2]
    exact .int _ _
  rw [e1] at key
  exact key
/- Structs and slices of structs that came in. A helper text: it speaks of no program. -/
def zH (P:Program) (e:TypeId) {α:Type} (en:α->List AV) (Q:α->Prop):Prop :=
 ∀ {H:Type} {enc:TypeId×Value->H} {w:World} {base:Nat} {spare:Nat->Bool} {held:Bool} {fuel:Nat} {cs:List Value} {x:DataW H×List MemPlace},DataW.trod enc P w base spare held fuel e cs=some x ->
  ∃ y:α,Q y/\cs.length=P.cellsOf e/\∀ j,j < cs.length->∀ (F:Nat->Prop) (w':World),v7 F w' ((en y).getD j .any) (cs.getD j undef)
/- Structs of any number of fields, and numbers of other kinds. A helper text: it speaks of no program. -/
/- Values with memory behind them that came in: slices within structs within slices. A helper text: it speaks of no program. -/
def D8 (P:Program) (e:TypeId) {α:Type} (en:α->List AV) (Q:α->Prop):Prop :=
 ∀ {H:Type} {enc:TypeId×Value->H} {w:World} {base:Nat} {spare:Nat->Bool} {held:Bool} {fuel:Nat} {cs:List Value} {x:DataW H×List MemPlace},DataW.trod enc P w base spare held fuel e cs=some x ->
  ∃ y:α,Q y/\cs.length=P.cellsOf e/\∀ j,j < cs.length->v7 (fun b=>b < w.heap.size) w ((en y).getD j .any) (cs.getD j undef)
theorem zH.mem {P:Program} {e:TypeId} {α:Type} {en:α->List AV} {Q:α->Prop} (h:zH P e en Q):D8 P e en Q:=by
 intro H enc w base spare held fuel cs x ht
 obtain ⟨y,q,l,r⟩:=h ht
 exact ⟨y,q,l,fun j hj=>r j hj _ _⟩
theorem D8.map {P:Program} {e:TypeId} {α β:Type} {en:α->List AV} {en':β->List AV} {Q:α->Prop} (h:D8 P e en Q) (f:α->β) (he:∀ y,en' (f y)=en y):D8 P e en' (fun z=>∃ y,f y=z/\Q y):=by
 intro H enc w base spare held fuel cs x ht
 obtain ⟨y,q,l,r⟩:=h ht
 exact ⟨f y,⟨y,rfl,q⟩,l,fun j hj=>by rw [he];exact r j hj⟩
/- A row's closed facts, where the program's mark is long. A helper text: it speaks of no program. -/
open Go
theorem uP (rest:List (List Char)):stripLifts liftWords ("cut".toList :: rest)=([], "cut".toList :: rest):=by
 have h:∀ ws:List String,(ws.all fun w => !("cut".toList == w.toList))=true→stripLifts ws ("cut".toList :: rest)=([], "cut".toList :: rest):=by
  intro ws
  induction ws with
  | nil=>intro _;rfl
  | cons w ws ih =>
   intro hw
   simp only [List.all_cons,Bool.and_eq_true,Bool.not_eq_true'] at hw
   simp only [stripLifts,hw.1,Bool.false_eq_true,if_false]
   exact ih hw.2
 exact h liftWords (by decide +kernel)
theorem xe (P:Program) (l:List Char) (hl:P.initOrder.toList=l) (b0:(behindMainWord (wordsSigns l)).head? = some "cut".toList) (h1:P.laysLater=false) (h2:P.bearsReflect=false) (h3:P.doorFits []=true):P.mayEnter=true:=by
 unfold Program.mayEnter
 rw [hl]
 generalize behindMainWord (wordsSigns l)=m at b0 ⊢
 match m,b0 with
 | c :: rest,h =>
  have:c = "cut".toList:=by simpa using h
  subst this
  simp only [uP,h1,h2,h3]
  simp
theorem Kc (P:Program):P.make=(match behindMainWord (wordsSigns P.initOrder.toList) with
 | c :: rest=>if c == "gc".toList || c == "spec".toList then some .whole else if c == "cut".toList || (c == "finals".toList && rest.head? == some "cut".toList) then some .cut else if c == "carried".toList then some .carried else if P.headLifts.isEmpty then none else some (.lifted P.headLifts)
 | []=>none):=rfl
theorem Kd (P:Program) (l:List Char) (hl:P.initOrder.toList=l) (b0:(behindMainWord (wordsSigns l)).head? = some "cut".toList):P.make=some .cut:=by
 rw [Kc,hl]
 generalize behindMainWord (wordsSigns l)=m at b0 ⊢
 match m,b0 with
 | c :: rest,h =>
  have:c = "cut".toList:=by simpa using h
  subst this
  have h1:("cut".toList == "gc".toList || "cut".toList == "spec".toList)=false:=by decide +kernel
  have h2:("cut".toList == "cut".toList)=true:=by decide +kernel
  simp only [h1,h2,Bool.true_or,if_true,Bool.false_eq_true,if_false]
theorem rB (P:Program) (l:List Char) (hl:P.initOrder.toList=l) (b0:(behindMainWord (wordsSigns l)).head? = some "cut".toList):P.liftsFinal=false:=by
 unfold Program.liftsFinal Program.headLifts
 rw [hl]
 generalize behindMainWord (wordsSigns l)=m at b0 ⊢
 match m,b0 with
 | c :: rest,h =>
  have:c = "cut".toList:=by simpa using h
  subst this
  simp only [uP]
  have h1:(some "cut".toList == some "carried".toList)=false:=by decide +kernel
  simp [h1]
def iM (P:Program) (f:FuncId) (fn:Func) (s:ChangeSpec) (c:OpenClaim) (m1:P.make=some .cut) (m2:P.mayEnter=true) (m3:P.liftsFinal=false):{ b:Bool // b=true->joinedFacts P f fn s c=true } :=
 ⟨_,by
  unfold joinedFacts
  rw [m1,m2,m3]
  exact id⟩

end Go.Ev
