/- Helper lemmas. -/
import Derived.Test.YtpmmjoccamogdaaGreatEvSix
import Derived.WideShapes
import Derived.ChangeSlices
import Derived.ProofKit
set_option linter.unusedVariables false
set_option linter.unusedSimpArgs false
/- A call that hands back rows, as a call that hands back a value: the rows read as memory that stays. A helper text: it speaks of no program. -/
namespace Go.Ev
def Row.plainR:Row->Bool
 | .ctr _ _ _ _=>false
 | _=>true
theorem PW.toPC {P:Program} {f:FuncId} {args:List AV} {res:AV} {l5:List Row} (h:PW P f args [] res l5) (n:Nat) (hp:l5.all Row.plainR=true):PC P f args (z8 n (fun i=>l5.getD i .none) res):=by
 intro F w vs hF C1 G8
 have ho:pz (fun _=>none) F w [] :=
  ⟨fun k=>by simp [s9],fun i j b hi=>absurd (by simp) hi,fun i b hi=>absurd (by simp) hi,fun i b hi=>by simp [o7,N4] at hi,fun _ _=>rfl⟩
 obtain ⟨h1,h2⟩:=h F w vs (fun _=>none) hF C1 (fun i hi => .imm (G8 i hi)) ho
 refine .inl ⟨h1,h2.mono ?_⟩
 rintro e w' ⟨v,β',F',rfl,hb,_,GK,wg,hr,o9,eh,Er,zP⟩
 have IG:∀ b,¬ cZ (fun _=>(none:Option Hd)) b:=fun b ⟨k,hk⟩=>by simp [o7,N4] at hk
 let S:St:=⟨[],l5,.plain⟩
 have hR:Rel (P:=P) (fun _=>True) w' (Env.plain P F' β' none .plain (fun _=>rfl)) S β' F' { tmps:=#[],defers:=[] } w':=by
  refine ⟨rfl,fun i hi=>absurd hi (Nat.not_lt_zero i),⟨[],⟨rfl,fun _=>rfl⟩,List.nodup_nil,fun D hD=>absurd hD (by simp)⟩,o9,eh,Er,fun i b hi=>⟨trivial,(zP i b hi).1⟩,fun b hb=>⟨(wg b hb).1,.inr trivial⟩,D6.refl _ _,fun _ _=>trivial,fun _ _ h=>h,?_,rfl,fun _ h=>h,y0.refl _ _,fun _ _ _ h _=>h,?_⟩
  ·intro j hj
   exact (Bool.noConfusion (show false=true from hj))
  ·intro id l xs k e he
   exfalso
   have he:l5.getD id .none = .ctr l xs k e:=he
   by_cases hi:id < l5.length
   ·have hm:l5.getD id .none ∈ l5:=by simp only [List.getD,List.getElem?_eq_getElem hi,Option.getD_some];exact List.getElem_mem hi
    have:=List.all_eq_true.1 hp _ hm
    rw [he] at this
    cases this
   ·rw [List.getD,List.getElem?_eq_none (by omega)] at he
    cases he
 refine ⟨v,rfl,(hb.mono fun b hb=>?_).below,(C0 hR n hr).mono ?_ ?_⟩
 ·rcases hb with hb|hb
  ·exact hb
  ·exact absurd hb (IG b)
 ·rintro b (hb|⟨i,hi,u9⟩)
  ·rcases (wg b hb).2 with h|h|h
   ·exact .inl h
   ·exact .inr h
   ·exact absurd h (IG b)
  ·rcases (zP i b u9).2 with h|h
   ·exact .inr h
   ·exact absurd h (IG b)
 ·exact fun _ _ _ _ h=>h
theorem PC.tts {P:Program} {f:FuncId} {args:List AV} {res:AV} (h:PC P f (args.map I2) res):PC P f args res:=fun F w vs hF C1 hr =>
 h F w vs hF (by rw [List.length_map];exact C1) fun i hi=>by rw [aC];exact (hr i (by rwa [List.length_map] at hi)).tts
theorem PW.tts {P:Program} {f:FuncId} {args:List AV} {ins l5:List Row} {res:AV} (h:PW P f (args.map I2) ins res l5):PW P f args ins res l5:=fun F w vs β hF C1 hr ho =>
 h F w vs β hF (by rw [List.length_map];exact C1) (fun i hi=>by rw [aC];exact (hr i (by rwa [List.length_map] at hi)).tts) ho
/- From a contract to a row. A helper text: it speaks of no program. -/
open Go.RowKit
theorem PC.calls {P:Program} {f:FuncId} {fn:Func} {c:Code} {args:List AV} {res:AV} (h:PC P f args res) (hf:P.funcs[f]? = some fn) (I8:(fn.name == "runtime.NumGoroutine")=false) (hb:fn.body=some c)
  {w:World} {vs:Array Value} (C1:vs.size=args.length) (N1:∀ i,i < args.length->p9 (fun b=>b < w.heap.size) w (args.getD i .any) (vs.getD i undef)) :
  Calls P f vs w fun e w'=>∃ v,e = .returned v/\Below w.heap.size w w'/\p9 (fun b=>b < w.heap.size∨w.heap.size<=b) w' res v:=by
 rcases h _ w vs (fun b hb=>hb) C1 N1 with ⟨_,h⟩|⟨v,h,_⟩
 ·exact h
 ·rw [Go.MuLone.run_callFunc_enter hf I8 hb] at h
  cases h
theorem PC.callsTrue {P:Program} {f:FuncId} {fn:Func} {c:Code} {args:List AV} (h:PC P f args (.bool true)) (hf:P.funcs[f]? = some fn) (I8:(fn.name == "runtime.NumGoroutine")=false) (hb:fn.body=some c)
  {w:World} {vs:Array Value} (C1:vs.size=args.length) (N1:∀ i,i < args.length->p9 (fun b=>b < w.heap.size) w (args.getD i .any) (vs.getD i undef)) :
  Calls P f vs w fun e w'=>e = .returned (.bool true)/\Below w.heap.size w w' :=
 (h.calls hf I8 hb C1 N1).mono fun _ _ ⟨_,h1,h2,h3⟩=>⟨by rw [h1];cases h3;rfl,h2⟩
theorem Du {n:Int} (h:(Lit.int .i64 n).wf=true):K6 n:=by
 simp [Lit.wf,IntKind.min,IntKind.max,IntKind.signed,IntKind.bits] at h
 exact ⟨by omega,by omega⟩
/- Structs and slices of structs that came in. A helper text: it speaks of no program. -/
def rn (P:Program) (e:TypeId) {α:Type} (en:α->List AV) (Q:α->Prop):Prop :=
 ∀ {H:Type} {enc:TypeId×Value->H} {w:World} {base:Nat} {spare:Nat->Bool} {held:Bool} {fuel:Nat} {cs:List Value} {x:DataW H×List MemPlace},DataW.trod enc P w base spare held fuel e cs=some x ->
  ∃ y:α,Q y/\cs.length=P.cellsOf e/\∀ j,j < cs.length->∀ (F:Nat->Prop) (w':World),p9 F w' ((en y).getD j .any) (cs.getD j undef)
theorem eX {P:Program} {e:TypeId} (he:P.underlying e=some (.int .i64)) (hc:P.cellsOf e=1):rn P e eI K6:=by
 intro H enc w base spare held fuel cs x h
 obtain ⟨m,rfl,rfl,hw⟩:=DataW.trod_int he h
 refine ⟨m,Du hw,by simp [hc],fun j hj F w' => ?_⟩
 have:j=0:=by simpa using hj
 subst this
 exact .int _ _
theorem tG {P:Program} {t:TypeId} {fs:Array Field} {f g:Field} {α β:Type} {en:α->List AV} {en':β->List AV} {Q:α->Prop} {Q':β->Prop} (ht:P.underlying t=some (.struct fs)) (h0:fs[0]? = some f) (h1:fs[1]? = some g)
  (o0:f.offset=0) (o1:g.offset=P.cellsOf f.type) (hc:P.cellsOf t=P.cellsOf f.type + P.cellsOf g.type) (hf:rn P f.type en Q) (hg:rn P g.type en' Q') (hl:∀ a,(en a).length=P.cellsOf f.type) :
  rn P t (fun y:α×β=>en y.1++en' y.2) (fun y=>Q y.1/\Q' y.2):=by
 intro H enc w base spare held fuel cs x h
 obtain ⟨xs,n,rfl,rfl,hlen,C1,AI⟩:=DataW.trod_struct ht h
 have e0:=AI 0 f h0
 have e1:=AI 1 g h1
 have s0:0 < fs.size:=by
  rcases Nat.lt_or_ge 0 fs.size with h|h
  ·exact h
  ·rw [Array.getElem?_eq_none h] at h0;cases h0
 have s1:1 < fs.size:=by
  rcases Nat.lt_or_ge 1 fs.size with h|h
  ·exact h
  ·rw [Array.getElem?_eq_none h] at h1;cases h1
 rw [List.getElem?_eq_getElem (by omega)] at e0 e1
 obtain ⟨y,q,l0,r0⟩:=hf e0
 obtain ⟨z,q',l1,r1⟩:=hg e1
 refine ⟨(y,z),⟨q,q'⟩,hlen,fun j hj F w' => ?_⟩
 rw [o0,List.drop_zero] at r0 l0
 rw [o1] at r1 l1
 by_cases mT:j < P.cellsOf f.type
 ·have:=r0 j (by rw [l0];exact mT) F w'
  have e2:(cs.take (P.cellsOf f.type)).getD j undef=cs.getD j undef:=by simp [List.getD,List.getElem?_take,mT]
  have e3:(en y++en' z).getD j .any=(en y).getD j .any:=by simp [List.getD,List.getElem?_append,hl,mT]
  show p9 F w' ((en y++en' z).getD j .any) _
  rw [e3,<- e2]
  exact this
 ·have:=r1 (j - P.cellsOf f.type) (by rw [l1];omega) F w'
  have e2:((cs.drop (P.cellsOf f.type)).take (P.cellsOf g.type)).getD (j - P.cellsOf f.type) undef=cs.getD j undef:=by
   simp only [List.getD,List.getElem?_take,List.getElem?_drop]
   rw [if_pos (by omega)]
   congr 2
   omega
  have e3:(en y++en' z).getD j .any=(en' z).getD (j - P.cellsOf f.type) .any:=by simp [List.getD,List.getElem?_append,hl,mT]
  show p9 F w' ((en y++en' z).getD j .any) _
  rw [e3,<- e2]
  exact this
/- Structs of any number of fields, and numbers of other kinds. A helper text: it speaks of no program. -/
def AJ (P:Program) (t:TypeId) (c:Nat) {α:Type} (en:α->List AV) (Q:α->Prop):Prop :=
 ∀ {H:Type} {enc:TypeId×Value->H} {w:World} {base:Nat} {spare:Nat->Bool} {held:Bool} {fuel:Nat} {cs:List Value} {x:DataW H×List MemPlace},DataW.trod enc P w base spare held fuel t cs=some x ->
  ∃ y:α,Q y/\∀ j,j < c->∀ (F:Nat->Prop) (w':World),p9 F w' ((en y).getD j .any) (cs.getD j undef)
theorem T2 {H:Type} {enc:TypeId×Value->H} {P:Program} {w:World} {base:Nat} {spare:Nat->Bool} {held:Bool} {fuel:Nat} {cs:List Value} {x:DataW H×List MemPlace} {t:TypeId} {fs:Array Field} {f:Field} {k:Nat}
  (ht:P.underlying t=some (.struct fs)) (hk:fs[k]? = some f) (h:DataW.trod enc P w base spare held fuel t cs=some x) :
  ∃ n y,cs.length=P.cellsOf t/\DataW.trod enc P w base spare held n f.type ((cs.drop f.offset).take (P.cellsOf f.type))=some y:=by
 obtain ⟨xs,n,rfl,rfl,hlen,C1,AI⟩:=DataW.trod_struct ht h
 have e:=AI k f hk
 have s:k < fs.size:=by
  rcases Nat.lt_or_ge k fs.size with h|h
  ·exact h
  ·rw [Array.getElem?_eq_none h] at hk;cases hk
 rw [List.getElem?_eq_getElem (by omega)] at e
 exact ⟨_,_,hlen,e⟩
theorem AK {P:Program} {t:TypeId} {fs:Array Field} {f:Field} {α:Type} {en:α->List AV} {Q:α->Prop} (ht:P.underlying t=some (.struct fs)) (hk:fs[0]? = some f) (ho:f.offset=0) (hf:rn P f.type en Q):AJ P t (P.cellsOf f.type) en Q:=by
 intro H enc w base spare held fuel cs x h
 obtain ⟨n,y,hlen,e⟩:=T2 ht hk h
 obtain ⟨y,q,l0,r0⟩:=hf e
 refine ⟨y,q,fun j hj F w' => ?_⟩
 rw [ho,List.drop_zero] at r0 l0
 have:=r0 j (by omega) F w'
 have e2:(cs.take (P.cellsOf f.type)).getD j undef=cs.getD j undef:=by simp [List.getD,List.getElem?_take,hj]
 rw [<- e2]
 exact this
theorem eY {P:Program} {t:TypeId} {fs:Array Field} {f:Field} {k c:Nat} {α β:Type} {en:α->List AV} {en':β->List AV} {Q:α->Prop} {Q':β->Prop} (ht:P.underlying t=some (.struct fs)) (hk:fs[k]? = some f) (ho:f.offset=c)
  (ha:AJ P t c en Q) (hf:rn P f.type en' Q') (hl:∀ a,(en a).length=c):AJ P t (c + P.cellsOf f.type) (fun y:α×β=>en y.1++en' y.2) (fun y=>Q y.1/\Q' y.2):=by
 intro H enc w base spare held fuel cs x h
 obtain ⟨n,y,hlen,e⟩:=T2 ht hk h
 obtain ⟨z,q',l1,r1⟩:=hf e
 obtain ⟨y,q,r0⟩:=ha h
 refine ⟨(y,z),⟨q,q'⟩,fun j hj F w' => ?_⟩
 rw [ho] at r1 l1
 by_cases mT:j < c
 ·have e3:(en y++en' z).getD j .any=(en y).getD j .any:=by simp [List.getD,List.getElem?_append,hl,mT]
  show p9 F w' ((en y++en' z).getD j .any) _
  rw [e3]
  exact r0 j mT F w'
 ·have:=r1 (j - c) (by rw [l1];omega) F w'
  have e2:((cs.drop c).take (P.cellsOf f.type)).getD (j - c) undef=cs.getD j undef:=by
   simp only [List.getD,List.getElem?_take,List.getElem?_drop]
   rw [if_pos (by omega)]
   congr 2
   omega
  have e3:(en y++en' z).getD j .any=(en' z).getD (j - c) .any:=by simp [List.getD,List.getElem?_append,hl,mT]
  show p9 F w' ((en y++en' z).getD j .any) _
  rw [e3,<- e2]
  exact this
theorem AL {P:Program} {t:TypeId} {fs:Array Field} {c:Nat} {f:Field} {α:Type} {en:α->List AV} {Q:α->Prop} (ht:P.underlying t=some (.struct fs)) (hk:fs[0]? = some f) (hc:P.cellsOf t=c) (ha:AJ P t c en Q):rn P t en Q:=by
 intro H enc w base spare held fuel cs x h
 obtain ⟨n,y,hlen,e⟩:=T2 ht hk h
 obtain ⟨y,q,r0⟩:=ha h
 exact ⟨y,q,hlen,fun j hj F w'=>r0 j (by omega) F w'⟩
theorem AM {P:Program} {e:TypeId} {k:IntKind} (he:P.underlying e=some (.int k)) (hc:P.cellsOf e=1):rn P e (fun n=>[.int k n]) (fun n=>(Lit.int k n).wf=true):=by
 intro H enc w base spare held fuel cs x h
 obtain ⟨m,rfl,rfl,hw⟩:=DataW.trod_int he h
 refine ⟨m,hw,by simp [hc],fun j hj F w' => ?_⟩
 have:j=0:=by simpa using hj
 subst this
 exact .int _ _
/- Values with memory behind them that came in: slices within structs within slices. A helper text: it speaks of no program. -/
def U4 (P:Program) (e:TypeId) {α:Type} (en:α->List AV) (Q:α->Prop):Prop :=
 ∀ {H:Type} {enc:TypeId×Value->H} {w:World} {base:Nat} {spare:Nat->Bool} {held:Bool} {fuel:Nat} {cs:List Value} {x:DataW H×List MemPlace},DataW.trod enc P w base spare held fuel e cs=some x ->
  ∃ y:α,Q y/\cs.length=P.cellsOf e/\∀ j,j < cs.length->p9 (fun b=>b < w.heap.size) w ((en y).getD j .any) (cs.getD j undef)
theorem rn.mem {P:Program} {e:TypeId} {α:Type} {en:α->List AV} {Q:α->Prop} (h:rn P e en Q):U4 P e en Q:=by
 intro H enc w base spare held fuel cs x ht
 obtain ⟨y,q,l,r⟩:=h ht
 exact ⟨y,q,l,fun j hj=>r j hj _ _⟩
theorem U4.map {P:Program} {e:TypeId} {α β:Type} {en:α->List AV} {en':β->List AV} {Q:α->Prop} (h:U4 P e en Q) (f:α->β) (he:∀ y,en' (f y)=en y):U4 P e en' (fun z=>∃ y,f y=z/\Q y):=by
 intro H enc w base spare held fuel cs x ht
 obtain ⟨y,q,l,r⟩:=h ht
 exact ⟨f y,⟨y,rfl,q⟩,l,fun j hj=>by rw [he];exact r j hj⟩
theorem U4.weak {P:Program} {e:TypeId} {α:Type} {en:α->List AV} {Q Q':α->Prop} (h:U4 P e en Q) (hq:∀ y,Q y->Q' y):U4 P e en Q':=by
 intro H enc w base spare held fuel cs x ht
 obtain ⟨y,q,l,r⟩:=h ht
 exact ⟨y,hq y q,l,r⟩
theorem jO {P:Program} {t e:TypeId} {α:Type} {d:α} {en:α->List AV} {Q:α->Prop} (ht:P.underlying t=some (.slice e)) (hc:P.cellsOf t=1) (uz:0 < P.cellsOf e) (hd:U4 P e en Q) :
  U4 P t (fun l:List α=>[.sl (P.cellsOf e) d en l]) (fun l=>(∀ n ∈ l,Q n)/\l.length<=maxLen):=by
 intro H enc w base spare held fuel cs x h
 rcases DataW.trod_slice ht h with ⟨rfl,_⟩|⟨a,len,cap,elems,rest,n,rfl,rfl,rfl,_,hl,hm,hlen,AI,_,_⟩
 ·refine ⟨[],⟨by simp,by simp⟩,by simp [hc],fun j hj=>?_⟩
  have:j=0:=by simpa using hj
  subst this
  exact .slnil
 ·by_cases h0:len=0
  ·subst h0
   refine ⟨[],⟨by simp,by simp⟩,by simp [hc],fun j hj=>?_⟩
   have:j=0:=by simpa using hj
   subst this
   exact .slnil
  have hs:a.spot=none:=by
   have h1:=AI 0 (by omega)
   rw [List.getElem?_eq_getElem (by omega),Option.bind_eq_some_iff] at h1
   obtain ⟨cs,h2,_⟩:=h1
   obtain ⟨_,h4,h5⟩:=World.cells?_some h2
   have:=h5 0 uz
   rw [List.getElem?_eq_getElem (by omega)] at this
   have:=World.cell?_spot this
   simpa [Addr.add] using this
  obtain ⟨b,o,sp⟩:=a
  simp only at hs
  subst hs
  have each:∀ i,i < len->∃ y:α,Q y/\∀ j,j < P.cellsOf e->∃ v,w.cell? ⟨b,o + i * P.cellsOf e + j,none⟩=some v/\p9 (fun b=>b < w.heap.size) w ((en y).getD j .any) v:=by
   intro i hi
   have h1:=AI i hi
   rw [List.getElem?_eq_getElem (by omega),Option.bind_eq_some_iff] at h1
   obtain ⟨cs,h2,h3⟩:=h1
   obtain ⟨y,q,Ec,hr⟩:=hd h3
   obtain ⟨_,h4,h5⟩:=World.cells?_some h2
   refine ⟨y,q,fun j hj=>⟨cs.getD j undef,?_,hr j (by omega)⟩⟩
   have:=h5 j hj
   rw [G0,G0] at this
   rw [this]
   simp [List.getD,show j < cs.length by omega]
  let f:Nat->α:=fun i=>if h:i < len then Classical.choose (each i h) else d
  have hf:∀ i,i < len->Q (f i)/\∀ j,j < P.cellsOf e->∃ v,w.cell? ⟨b,o + i * P.cellsOf e + j,none⟩=some v/\p9 (fun b=>b < w.heap.size) w ((en (f i)).getD j .any) v:=by
   intro i hi
   have:=Classical.choose_spec (each i hi)
   simp only [f,hi,dite_true]
   exact this
  refine ⟨(List.range len).map f,⟨fun n hn=>?_,by simp;omega⟩,by simp [hc],fun j hj=>?_⟩
  ·obtain ⟨i,hi,rfl⟩:=List.mem_map.1 hn
   exact (hf i (List.mem_range.1 hi)).1
  ·have:j=0:=by simpa using hj
   subst this
   have FO:((List.range len).map f).length=len:=by simp
   have hg:∀ i,i < len->((List.range len).map f).getD i d=f i:=fun i hi=>by simp [List.getD,hi]
   have key:p9 (fun b=>b < w.heap.size) w (.sl (P.cellsOf e) d en ((List.range len).map f)) (.slice (some ⟨b,o,none⟩) ((List.range len).map f).length cap):=by
    refine .sl (fun i j=>(w.cell? ⟨b,o + i * P.cellsOf e + j,none⟩).getD undef) (by omega) (fun i j hi hj=>?_) fun i j hi hj=>?_
    ·obtain ⟨v,h1,_⟩:=(hf i (by omega)).2 j hj
     have Cq:=h1
     rw [h1]
     exact ⟨World.block_lt_of_cell? w ⟨b,o + i * P.cellsOf e + j,none⟩ Cq,rfl⟩
    ·obtain ⟨v,h1,h2⟩:=(hf i (by omega)).2 j hj
     rw [h1,hg i (by omega)]
     exact h2
   rw [FO] at key
   exact key
def tH (P:Program) (t:TypeId) (c:Nat) {α:Type} (en:α->List AV) (Q:α->Prop):Prop :=
 ∀ {H:Type} {enc:TypeId×Value->H} {w:World} {base:Nat} {spare:Nat->Bool} {held:Bool} {fuel:Nat} {cs:List Value} {x:DataW H×List MemPlace},DataW.trod enc P w base spare held fuel t cs=some x ->
  ∃ y:α,Q y/\∀ j,j < c->p9 (fun b=>b < w.heap.size) w ((en y).getD j .any) (cs.getD j undef)
theorem xU {P:Program} {t:TypeId} {fs:Array Field} {f:Field} {α:Type} {en:α->List AV} {Q:α->Prop} (ht:P.underlying t=some (.struct fs)) (hk:fs[0]? = some f) (ho:f.offset=0) (hf:U4 P f.type en Q):tH P t (P.cellsOf f.type) en Q:=by
 intro H enc w base spare held fuel cs x h
 obtain ⟨n,y,hlen,e⟩:=T2 ht hk h
 obtain ⟨y,q,l0,r0⟩:=hf e
 refine ⟨y,q,fun j hj=>?_⟩
 rw [ho,List.drop_zero] at r0 l0
 have:=r0 j (by omega)
 have e2:(cs.take (P.cellsOf f.type)).getD j undef=cs.getD j undef:=by simp [List.getD,List.getElem?_take,hj]
 rw [<- e2]
 exact this
theorem aR {P:Program} {t:TypeId} {fs:Array Field} {f:Field} {k c:Nat} {α β:Type} {en:α->List AV} {en':β->List AV} {Q:α->Prop} {Q':β->Prop} (ht:P.underlying t=some (.struct fs)) (hk:fs[k]? = some f) (ho:f.offset=c)
  (ha:tH P t c en Q) (hf:U4 P f.type en' Q') (hl:∀ a,(en a).length=c):tH P t (c + P.cellsOf f.type) (fun y:α×β=>en y.1++en' y.2) (fun y=>Q y.1/\Q' y.2):=by
 intro H enc w base spare held fuel cs x h
 obtain ⟨n,y,hlen,e⟩:=T2 ht hk h
 obtain ⟨z,q',l1,r1⟩:=hf e
 obtain ⟨y,q,r0⟩:=ha h
 refine ⟨(y,z),⟨q,q'⟩,fun j hj=>?_⟩
 rw [ho] at r1 l1
 by_cases mT:j < c
 ·have e3:(en y++en' z).getD j .any=(en y).getD j .any:=by simp [List.getD,List.getElem?_append,hl,mT]
  show p9 _ w ((en y++en' z).getD j .any) _
  rw [e3]
  exact r0 j mT
 ·have:=r1 (j - c) (by rw [l1];omega)
  have e2:((cs.drop c).take (P.cellsOf f.type)).getD (j - c) undef=cs.getD j undef:=by
   simp only [List.getD,List.getElem?_take,List.getElem?_drop]
   rw [if_pos (by omega)]
   congr 2
   omega
  have e3:(en y++en' z).getD j .any=(en' z).getD (j - c) .any:=by simp [List.getD,List.getElem?_append,hl,mT]
  show p9 _ w ((en y++en' z).getD j .any) _
  rw [e3,<- e2]
  exact this
theorem xV {P:Program} {t:TypeId} {fs:Array Field} {c:Nat} {f:Field} {α:Type} {en:α->List AV} {Q:α->Prop} (ht:P.underlying t=some (.struct fs)) (hk:fs[0]? = some f) (hc:P.cellsOf t=c) (ha:tH P t c en Q):U4 P t en Q:=by
 intro H enc w base spare held fuel cs x h
 obtain ⟨n,y,hlen,e⟩:=T2 ht hk h
 obtain ⟨y,q,r0⟩:=ha h
 exact ⟨y,q,hlen,fun j hj=>r0 j (by omega)⟩
theorem qg {H:Type} {enc:TypeId×Value->H} {P:Program} {w:World} {base:Nat} {spare:Nat->Bool} {held:Bool} {t:TypeId} {a:Option Addr} {len cap:Nat} {d:DataW H} {ps:List MemPlace}
  {α:Type} {en:α->AV} {Q:α->Prop} (hd:U4 P t (fun y=>[en y]) Q) (h:DataW.Trod enc P w 0 spare held t (.slice a len cap) d ps) :
  ∃ y:α,Q y/\p9 (fun b=>b < w.heap.size) w (en y) (.slice a len cap):=by
 obtain ⟨fuel,h⟩:=h
 obtain ⟨y,q,h1,h2⟩:=hd h
 exact ⟨y,q,h2 0 (by simp [Value.cells])⟩
/- A row's closed facts, where the program's mark is long. A helper text: it speaks of no program. -/
open Go
theorem mo (rest:List (List Char)):stripLifts liftWords ("cut".toList :: rest)=([], "cut".toList :: rest):=by
 have h:∀ ws:List String,(ws.all fun w => !("cut".toList == w.toList))=true→stripLifts ws ("cut".toList :: rest)=([], "cut".toList :: rest):=by
  intro ws
  induction ws with
  | nil=>intro _;rfl
  | cons w ws ih =>
   intro hw
   simp only [List.all_cons,Bool.and_eq_true,Bool.not_eq_true'] at hw
   simp only [stripLifts,hw.1,Bool.false_eq_true,if_false]
   exact ih hw.2
 exact h liftWords (by decide +kernel)
theorem nW (P:Program) (l:List Char) (hl:P.initOrder.toList=l) (b0:(behindMainWord (wordsSigns l)).head? = some "cut".toList) (h1:P.laysLater=false) (h2:P.bearsReflect=false) (h3:P.doorFits []=true):P.mayEnter=true:=by
 unfold Program.mayEnter
 rw [hl]
 generalize behindMainWord (wordsSigns l)=m at b0 ⊢
 match m,b0 with
 | c :: rest,h =>
  have:c = "cut".toList:=by simpa using h
  subst this
  simp only [mo,h1,h2,h3]
  simp
theorem xW (P:Program):P.make=(match behindMainWord (wordsSigns P.initOrder.toList) with
 | c :: rest=>if c == "gc".toList || c == "spec".toList then some .whole else if c == "cut".toList || (c == "finals".toList && rest.head? == some "cut".toList) then some .cut else if c == "carried".toList then some .carried else if P.headLifts.isEmpty then none else some (.lifted P.headLifts)
 | []=>none):=rfl
theorem xX (P:Program) (l:List Char) (hl:P.initOrder.toList=l) (b0:(behindMainWord (wordsSigns l)).head? = some "cut".toList):P.make=some .cut:=by
 rw [xW,hl]
 generalize behindMainWord (wordsSigns l)=m at b0 ⊢
 match m,b0 with
 | c :: rest,h =>
  have:c = "cut".toList:=by simpa using h
  subst this
  have h1:("cut".toList == "gc".toList || "cut".toList == "spec".toList)=false:=by decide +kernel
  have h2:("cut".toList == "cut".toList)=true:=by decide +kernel
  simp only [h1,h2,Bool.true_or,if_true,Bool.false_eq_true,if_false]
theorem jP (P:Program) (l:List Char) (hl:P.initOrder.toList=l) (b0:(behindMainWord (wordsSigns l)).head? = some "cut".toList):P.liftsFinal=false:=by
 unfold Program.liftsFinal Program.headLifts
 rw [hl]
 generalize behindMainWord (wordsSigns l)=m at b0 ⊢
 match m,b0 with
 | c :: rest,h =>
  have:c = "cut".toList:=by simpa using h
  subst this
  simp only [mo]
  have h1:(some "cut".toList == some "carried".toList)=false:=by decide +kernel
  simp [h1]
def Dv (P:Program) (f:FuncId) (fn:Func) (s:ChangeSpec) (c:OpenClaim) (m1:P.make=some .cut) (m2:P.mayEnter=true) (m3:P.liftsFinal=false):{ b:Bool // b=true->joinedFacts P f fn s c=true } :=
 ⟨_,by
  unfold joinedFacts
  rw [m1,m2,m3]
  exact id⟩

end Go.Ev
