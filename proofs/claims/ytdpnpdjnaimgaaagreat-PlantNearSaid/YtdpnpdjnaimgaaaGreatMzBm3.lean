/- A helper text: contracts of functions of the program, and plain lemmas. -/
import Derived.Test.YtdpnpdjnaimgaaaGreatMzBpA
import Derived.Test.YtdpnpdjnaimgaaaGreatMzBqX
set_option maxRecDepth 100000
set_option maxHeartbeats 0
set_option linter.unusedVariables false
set_option linter.unusedSimpArgs false
namespace Go.Proofs.Tryz.My
open Go Go.Ev
theorem Z7 {β:Type} (F:EntT->β) (hF:∀ x is,F (setD x is)=F x) (l:List EntT) (i k:Nat) (is:Bool):F ((l.set i (setD (l.getD i ent0) is)).getD k ent0)=F (l.getD k ent0):=by
 by_cases e:i=k
 ·subst e
  by_cases hi:i < l.length
  ·rw [List.getD,List.getElem?_set_self hi,Option.getD_some,hF]
  ·rw [List.set_eq_of_length_le (by omega)]
 ·rw [List.getD,List.getElem?_set_ne e]; rfl
theorem b3P (b:BooksT) (seq:Int) (is:Bool):chkB (mrkB b seq is)=chkB b:=by
 have hl:(mrkB b seq is).log.length=b.log.length:=List.length_set
 have hp:∀ k,V6 (mrkB b seq is).log k=V6 b.log k:=fun k=>by
  unfold V6
  split
  ·rfl
  ·exact Z7 EntT.seq (fun _ _=>rfl) _ _ _ _
 have he:∀ k,entB (mrkB b seq is) k=entB b k:=fun k=>by
  have f1:((mrkB b seq is).log.getD k ent0).seq=(b.log.getD k ent0).seq:=Z7 EntT.seq (fun _ _=>rfl) _ _ _ _
  have f2:((mrkB b seq is).log.getD k ent0).recipe=(b.log.getD k ent0).recipe:=Z7 EntT.recipe (fun _ _=>rfl) _ _ _ _
  have f3:((mrkB b seq is).log.getD k ent0).part=(b.log.getD k ent0).part:=Z7 EntT.part (fun _ _=>rfl) _ _ _ _
  have f4:((mrkB b seq is).log.getD k ent0).profile=(b.log.getD k ent0).profile:=Z7 EntT.profile (fun _ _=>rfl) _ _ _ _
  have f5:((mrkB b seq is).log.getD k ent0).verdict=(b.log.getD k ent0).verdict:=Z7 EntT.verdict (fun _ _=>rfl) _ _ _ _
  unfold entB
  rw [f1,f2,f3,f4,f5,hp]
  rfl
 unfold chkB U5 J0
 rw [hl,funext he]
 rfl

end Go.Proofs.Tryz.My
