/- Helper lemmas. -/
import Derived.Test.YtpmmjoccamogdaaGreatMyBpA
set_option linter.unusedVariables false
set_option linter.unusedSimpArgs false
set_option maxRecDepth 100000
set_option maxHeartbeats 0
namespace Go.Proofs.Tryz.My
open Go Go.Ev
theorem cQ {β:Type} (F:A1->β) (hF:∀ x is,F (vN x is)=F x) (l:List A1) (i k:Nat) (is:Bool):F ((l.set i (vN (l.getD i o8) is)).getD k o8)=F (l.getD k o8):=by
 by_cases e:i=k
 ·subst e
  by_cases hi:i < l.length
  ·rw [List.getD,List.getElem?_set_self hi,Option.getD_some,hF]
  ·rw [List.set_eq_of_length_le (by omega)]
 ·rw [List.getD,List.getElem?_set_ne e];rfl
theorem BC (b:b9) (seq:Int) (is:Bool):A8 (P9 b seq is)=A8 b:=by
 have hl:(P9 b seq is).log.length=b.log.length:=List.length_set
 have hp:∀ k,bP (P9 b seq is).log k=bP b.log k:=fun k=>by
  unfold bP
  split
  ·rfl
  ·exact cQ A1.seq (fun _ _=>rfl) _ _ _ _
 have he:∀ k,kl (P9 b seq is) k=kl b k:=fun k=>by
  have f1:((P9 b seq is).log.getD k o8).seq=(b.log.getD k o8).seq:=cQ A1.seq (fun _ _=>rfl) _ _ _ _
  have f2:((P9 b seq is).log.getD k o8).recipe=(b.log.getD k o8).recipe:=cQ A1.recipe (fun _ _=>rfl) _ _ _ _
  have f3:((P9 b seq is).log.getD k o8).part=(b.log.getD k o8).part:=cQ A1.part (fun _ _=>rfl) _ _ _ _
  have f4:((P9 b seq is).log.getD k o8).j8=(b.log.getD k o8).j8:=cQ A1.j8 (fun _ _=>rfl) _ _ _ _
  have f5:((P9 b seq is).log.getD k o8).H8=(b.log.getD k o8).H8:=cQ A1.H8 (fun _ _=>rfl) _ _ _ _
  unfold kl
  rw [f1,f2,f3,f4,f5,hp]
  rfl
 unfold A8 bI U1
 rw [hl,funext he]
 rfl

end Go.Proofs.Tryz.My
