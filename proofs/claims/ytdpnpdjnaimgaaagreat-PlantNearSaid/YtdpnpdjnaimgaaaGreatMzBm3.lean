/- Helper lemmas. -/
import Derived.Test.YtdpnpdjnaimgaaaGreatMzBpA
set_option linter.unusedVariables false
set_option linter.unusedSimpArgs false
set_option maxRecDepth 100000
set_option maxHeartbeats 0
namespace Go.Proofs.Tryz.My
open Go Go.Ev
theorem jz {β:Type} (F:B8->β) (hF:∀ x is,F (Hf x is)=F x) (l:List B8) (i k:Nat) (is:Bool):F ((l.set i (Hf (l.getD i w9) is)).getD k w9)=F (l.getD k w9):=by
 by_cases e:i=k
 ·subst e
  by_cases hi:i < l.length
  ·rw [List.getD,List.getElem?_set_self hi,Option.getD_some,hF]
  ·rw [List.set_eq_of_length_le (by omega)]
 ·rw [List.getD,List.getElem?_set_ne e];rfl
theorem Of (b:o7) (seq:Int) (is:Bool):E1 (W0 b seq is)=E1 b:=by
 have hl:(W0 b seq is).log.length=b.log.length:=List.length_set
 have hp:∀ k,hH (W0 b seq is).log k=hH b.log k:=fun k=>by
  unfold hH
  split
  ·rfl
  ·exact jz B8.seq (fun _ _=>rfl) _ _ _ _
 have he:∀ k,rS (W0 b seq is) k=rS b k:=fun k=>by
  have f1:((W0 b seq is).log.getD k w9).seq=(b.log.getD k w9).seq:=jz B8.seq (fun _ _=>rfl) _ _ _ _
  have f2:((W0 b seq is).log.getD k w9).recipe=(b.log.getD k w9).recipe:=jz B8.recipe (fun _ _=>rfl) _ _ _ _
  have f3:((W0 b seq is).log.getD k w9).part=(b.log.getD k w9).part:=jz B8.part (fun _ _=>rfl) _ _ _ _
  have f4:((W0 b seq is).log.getD k w9).o9=(b.log.getD k w9).o9:=jz B8.o9 (fun _ _=>rfl) _ _ _ _
  have f5:((W0 b seq is).log.getD k w9).o6=(b.log.getD k w9).o6:=jz B8.o6 (fun _ _=>rfl) _ _ _ _
  unfold rS
  rw [f1,f2,f3,f4,f5,hp]
  rfl
 unfold E1 gG bM
 rw [hl,funext he]
 rfl

end Go.Proofs.Tryz.My
