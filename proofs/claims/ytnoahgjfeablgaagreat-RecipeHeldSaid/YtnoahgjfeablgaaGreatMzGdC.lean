/- A helper text: contracts of functions of the program, and plain lemmas. -/
import Derived.Test.YtnoahgjfeablgaaGreatEvSix
import Derived.Test.YtnoahgjfeablgaaGreatChecked
import Derived.Test.YtnoahgjfeablgaaGreatMzGd4
set_option maxRecDepth 100000
set_option maxHeartbeats 0
set_option linter.unusedVariables false
set_option linter.unusedSimpArgs false
namespace Go.Proofs.Tryz.My
open Go Go.Ev
end Go.Proofs.Tryz.My
set_option maxRecDepth 100000
set_option maxHeartbeats 0
set_option linter.unusedVariables false
set_option linter.unusedSimpArgs false
namespace Go.Proofs.Tryz.My
open Go Go.Ev
abbrev gcs (thr noise a1 a2 b1 b2 l1 l2 h1 h2 : Int) : AV := .agg [i64 thr, i64 noise, i64 a1, i64 a2, i64 b1, i64 b2, i64 l1, i64 l2, i64 h1, i64 h2]
end Go.Proofs.Tryz.My
