/- Some of the rows that a call hands back, read as memory that stays; the others stay rows. A helper text: it speaks of no program. -/
import Derived.Test.YtpmmjoccamogdaaGreatEvNine
set_option linter.unusedVariables false
set_option linter.unusedSimpArgs false
namespace Go.Ev
theorem PW.frz {P:Program} {f:FuncId} {args:List AV} {ins l5:List Row} {res:AV} (h:PW P f args ins res l5) (s:Nat->Bool) (hp:l5.all Row.plainR=true) :
  PW P f args ins (cX 4 s (fun i=>l5.getD i .none) res) (Z0 s (fun i=>l5.getD i .none) 0 l5):=by
 intro F w vs β hF C1 G8 ho
 obtain ⟨h1,h2⟩:=h F w vs β hF C1 G8 ho
 refine ⟨h1,h2.mono ?_⟩
 rintro e w' ⟨v,β',F',rfl,hb,IH,GK,wg,hr,o9,eh,Er,zP⟩
 let S:St:=⟨[res],l5,.plain⟩
 let B:Nat->Prop:=fun b=>(w.heap.size<=b∨cZ β b)∨w'.heap.size<=b
 have hR:Rel (P:=P) B w' (Env.plain P F' (fun _=>none) none .plain (fun _=>rfl)) S β' F' { tmps:=#[v],defers:=[] } w':=by
  refine ⟨rfl,fun i hi=>?_,⟨[],⟨rfl,fun _=>rfl⟩,List.nodup_nil,fun D hD=>absurd hD (by simp)⟩,fun i=>o9 i,eh,Er,fun i b hi=>⟨.inl (zP i b hi).2,(zP i b hi).1⟩,fun b hb=>⟨(wg b hb).1,.inl hb⟩,D6.refl _ _,fun b hb => .inr hb,fun _ _ h=>(by cases h),fun _ _=>rfl,rfl,fun _ h=>h,y0.refl _ _,fun _ _ _ h _=>h,?_⟩
  ·have e:i=0:=by
    have:i < 1:=hi
    omega
   subst e
   exact hr
  ·intro id l xs k' e he
   exfalso
   have he:l5.getD id .none = .ctr l xs k' e:=he
   by_cases hi:id < l5.length
   ·have m:=List.all_eq_true.1 hp (l5.getD id .none) (by simp only [List.getD,List.getElem?_eq_getElem hi,Option.getD_some];exact List.getElem_mem hi)
    rw [he] at m
    cases m
   ·rw [List.getD,List.getElem?_eq_none (by omega)] at he
    cases he
 obtain ⟨uG,F7⟩:=hR.freeze s
 refine ⟨v,β',uG,rfl,hb,IH,fun b hb=>F7.inc b (GK b hb),fun b hb=>?_,?_,fun k=>F7.rows k,F7.inj,F7.bF,zP⟩
 ·obtain ⟨q1,q2⟩:=F7.FB b hb
  refine ⟨q1,?_⟩
  rcases q2 with q2|(q2|q2)
  ·exact (wg b q2).2
  ·exact .inr q2
  ·omega
 ·exact F7.slots 0 (Nat.zero_lt_succ 0)

end Go.Ev
