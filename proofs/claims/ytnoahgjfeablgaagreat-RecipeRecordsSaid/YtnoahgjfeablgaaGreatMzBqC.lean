/- A helper text: contracts of functions of the program, and plain lemmas. -/
import Derived.Test.YtnoahgjfeablgaaGreatEvSix
import Derived.Test.YtnoahgjfeablgaaGreatMzBqB
import Derived.Test.YtnoahgjfeablgaaGreatMzBpA
set_option maxRecDepth 100000
set_option maxHeartbeats 0
set_option linter.unusedVariables false
set_option linter.unusedSimpArgs false
namespace Go.Proofs.Tryz.My
open Go Go.Ev
def RefMay (b : BooksT) (is : Bool) (rr : List Int) : Prop := ∀ u : Int, 0 ≤ u → u < b.users.length → (mayB rr b.users u = !(!is && decide (b.users.getD u.toNat 0 ≠ 3)))
end Go.Proofs.Tryz.My
set_option maxRecDepth 100000
set_option maxHeartbeats 0
set_option linter.unusedVariables false
set_option linter.unusedSimpArgs false
namespace Go.Proofs.Tryz.My
open Go Go.Ev
end Go.Proofs.Tryz.My
