/- A helper text: contracts of functions of the program, and plain lemmas. -/
import Derived.Test.YtnoahgjfeablgaaGreatEvSix
import Derived.Test.YtnoahgjfeablgaaGreatMzRf2
import Derived.Test.YtnoahgjfeablgaaGreatMzExB
set_option maxRecDepth 100000
set_option maxHeartbeats 0
set_option linter.unusedVariables false
set_option linter.unusedSimpArgs false
namespace Go.Proofs.Tryz.My
open Go Go.Ev
abbrev okF (r : (Int × Int) × Int) : AV := .tup [fr r.1, .bool (decide (r.2 = 0))]
end Go.Proofs.Tryz.My
