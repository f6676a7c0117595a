/- A helper text: contracts of functions of the program, and plain lemmas. -/
import Derived.Test.YtnoahgjfeablgaaGreatEvSix
import Derived.Test.YtnoahgjfeablgaaGreatMzBkA
import Derived.Test.YtnoahgjfeablgaaGreatMzGdC
set_option maxRecDepth 100000
set_option maxHeartbeats 0
set_option linter.unusedVariables false
set_option linter.unusedSimpArgs false
namespace Go.Proofs.Tryz.My
open Go Go.Ev
def cnt3 (us l : List Int) : Nat := (l.filter (mayB [3] us)).length
end Go.Proofs.Tryz.My
