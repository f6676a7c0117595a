/- A helper text: contracts of functions of the program, and plain lemmas. -/
import Derived.Test.YtdpnpdjnaimgaaaGreatMzBn6
set_option maxRecDepth 100000
set_option maxHeartbeats 0
set_option linter.unusedVariables false
set_option linter.unusedSimpArgs false
namespace Go.Proofs.Tryz.My
open Go Go.Ev
def HeldAt (b d : BooksT) (a : ActT) (k : Nat) : Prop :=
  (∃ q : Bool, d.log.any (isSeq (b.log.getD k ent0).seq) = true ∧ d.log.getD (d.log.findIdx (isSeq (b.log.getD k ent0).seq)) ent0 = setD (b.log.getD k ent0) q ∧ (q = (b.log.getD k ent0).disputed ∨ (¬knd a < 6 ∧ a.number = (b.log.getD k ent0).seq))) ∨
  (d.log.any (isSeq (b.log.getD k ent0).seq) = false ∧ (b.log.getD k ent0).disputed = false ∧ (∀ m, m < k → (b.log.getD m ent0).disputed = true) ∧ knd a = 5 ∧ (b.log.length : Int) = b.keep ∧ d.log.length = b.log.length)
end Go.Proofs.Tryz.My
